/- YtofjebmoebhiiaaGreatDoorUd: a part of the proof (Tab, Defs, Eqchain ..). No condition. -/
import Derived.Test.YtofjebmoebhiiaaGreatDoorUc
import Derived.KernelRfl
import Derived.Test.YtofjebmoebhiiaaGreatDoorProg
set_option linter.unusedVariables false
set_option linter.unusedSimpArgs false
set_option maxRecDepth 100000
set_option exponentiation.threshold 2000
namespace Go.Proofs.YtofjebmoebhiiaaGreatDoor.Ev
open Go.Abs
abbrev ff:Bool:=false
abbrev zI:Ty:= .int .i64
abbrev zT:Ty:= .pair zI (.pair zI .unit)
abbrev zC:Ty:= .pair zI (.pair .str (.pair (.slice (.st zT)) .unit))
abbrev zR:Ty:= .pair zI (.pair .str (.pair (.ref 2) .unit))
abbrev zH:Ty:= .st (.pair zI (.pair (.slice (.st zC)) .unit))
abbrev zW:Ty:= .st (.pair (.slice (.slice zI)) (.pair (.slice zI) (.pair zI (.pair (.slice zI) .unit))))
abbrev zB:List (Ty×Option Nat):=[(.bool,none)]
def tys:List fK:=[
 ⟨1, .fn,8,0,[],false⟩,
 ⟨2,zI,8,0,[],false⟩,
 ⟨3,zI,8,0,[],false⟩,
 ⟨4, .bool,1,0,[],false⟩,
 ⟨5,(.int .u8),1,0,[],false⟩,
 ⟨6,(.int .u8),1,0,[],false⟩,
 ⟨7,(.st (.pair zI (.pair zI (.pair .bool (.pair (.int .u8) .unit))))),24,0,[(0,1),(1,1),(2,1),(3,1)],false⟩,
 ⟨8,(.st (.pair zI (.pair zI (.pair .bool (.pair (.int .u8) .unit))))),24,0,[(0,1),(1,1),(2,1),(3,1)],false⟩,
 ⟨9, .str,16,0,[],false⟩,
 ⟨10, .str,16,0,[],false⟩,
 ⟨11, .str,16,0,[],false⟩,
 ⟨12,(.int .u64),8,0,[],false⟩,
 ⟨13,(.st (.pair .str (.pair (.int .u64) .unit))),24,0,[(0,1),(1,1)],false⟩,
 ⟨14,(.st (.pair .str (.pair (.int .u64) .unit))),24,0,[(0,1),(1,1)],false⟩,
 ⟨21,(.int .i32),4,0,[],false⟩,
 ⟨22,(.slice (.st zC)),24,42,[],false⟩,
 ⟨23,(.st (.pair zI (.pair (.ref 0) .unit))),32,0,[(0,1),(1,1)],false⟩,
 ⟨24,(.st (.pair zI (.pair (.ref 0) .unit))),32,0,[(0,1),(1,1)],false⟩,
 ⟨25,(.slice (.slice zI)),24,26,[],false⟩,
 ⟨26,(.slice zI),24,3,[],false⟩,
 ⟨27,zW,80,0,[(0,1),(1,1),(2,1),(3,1)],false⟩,
 ⟨28,zW,80,0,[(0,1),(1,1),(2,1),(3,1)],false⟩,
 ⟨29, .fn,8,0,[],false⟩,
 ⟨30, .fn,8,0,[],false⟩,
 ⟨31, .fn,8,0,[],false⟩,
 ⟨32,(.slice (.st (.pair zI (.pair (.ref 0) .unit)))),24,24,[],false⟩,
 ⟨33, .fn,8,0,[],false⟩,
 ⟨34,zI,8,0,[],false⟩,
 ⟨35, .fn,8,0,[],false⟩,
 ⟨37, .fn,8,0,[],false⟩,
 ⟨38, .fn,8,0,[],false⟩,
 ⟨39, .str,16,0,[],false⟩,
 ⟨40,(.slice (.st zT)),24,44,[],false⟩,
 ⟨41,(.st zC),48,0,[(0,1),(1,1),(2,1)],false⟩,
 ⟨42,(.st zC),48,0,[(0,1),(1,1),(2,1)],false⟩,
 ⟨43,(.st zT),16,0,[(0,1),(1,1)],false⟩,
 ⟨44,(.st zT),16,0,[(0,1),(1,1)],false⟩,
 ⟨45, .fn,8,0,[],false⟩,
 ⟨46,(.slice (.st zT)),24,58,[],false⟩,
 ⟨47,(.st zT),16,0,[(0,1),(1,1)],false⟩,
 ⟨48,(.st zT),16,0,[(0,1),(1,1)],false⟩,
 ⟨50, .fn,8,0,[],false⟩,
 ⟨51, .fn,8,0,[],false⟩,
 ⟨53, .fn,8,0,[],false⟩,
 ⟨54, .fn,8,0,[],false⟩,
 ⟨55, .fn,8,0,[],false⟩,
 ⟨56, .fn,8,0,[],false⟩,
 ⟨57,(.st zT),16,0,[(0,1),(1,1)],false⟩,
 ⟨58,(.st zT),16,0,[(0,1),(1,1)],false⟩,
 ⟨59, .fn,8,0,[],false⟩,
 ⟨60, .fn,8,0,[],false⟩,
 ⟨61, .fn,8,0,[],false⟩,
 ⟨62,(.slice (.st (.pair (.slice zI) (.pair .str .unit)))),24,101,[],false⟩,
 ⟨63,(.slice (.st (.pair (.slice zI) (.pair .str .unit)))),24,101,[],false⟩,
 ⟨64, .fn,8,0,[],false⟩,
 ⟨65, .fn,8,0,[],false⟩,
 ⟨66, .fn,8,0,[],false⟩,
 ⟨67, .fn,8,0,[],false⟩,
 ⟨68, .fn,8,0,[],false⟩,
 ⟨69, .fn,8,0,[],false⟩,
 ⟨70, .fn,8,0,[],false⟩,
 ⟨71, .fn,8,0,[],false⟩,
 ⟨72, .fn,8,0,[],false⟩,
 ⟨73,(.slice (.int .u32)),24,168,[],false⟩,
 ⟨74,(.st (.pair .bool (.pair (.slice (.int .u32)) .unit))),32,0,[(0,1),(1,1)],false⟩,
 ⟨75,(.st (.pair .bool (.pair (.slice (.int .u32)) .unit))),32,0,[(0,1),(1,1)],false⟩,
 ⟨76,(.st (.pair (.st (.pair .bool (.pair (.slice (.int .u32)) .unit))) (.pair (.st (.pair .bool (.pair (.slice (.int .u32)) .unit))) .unit))),64,0,[(0,2),(2,2)],false⟩,
 ⟨77,(.st (.pair (.st (.pair .bool (.pair (.slice (.int .u32)) .unit))) (.pair (.st (.pair .bool (.pair (.slice (.int .u32)) .unit))) .unit))),64,0,[(0,2),(2,2)],false⟩,
 ⟨79, .fn,8,0,[],false⟩,
 ⟨80, .fn,8,0,[],false⟩,
 ⟨81, .fn,8,0,[],false⟩,
 ⟨83, .fn,8,0,[],false⟩,
 ⟨84, .fn,8,0,[],false⟩,
 ⟨85,(.st (.pair .fn (.pair .bool .unit))),16,0,[(0,1),(1,1)],false⟩,
 ⟨86,(.st (.pair .fn (.pair .bool .unit))),16,0,[(0,1),(1,1)],false⟩,
 ⟨87, .fn,8,0,[],false⟩,
 ⟨88, .fn,8,0,[],false⟩,
 ⟨89,(.ptr 5),8,0,[],false⟩,
 ⟨90, .fn,8,0,[],false⟩,
 ⟨91, .fn,8,0,[],false⟩,
 ⟨92, .fn,8,0,[],false⟩,
 ⟨93,(.slice .bool),24,4,[],false⟩,
 ⟨94,(.st (.pair zH (.pair (.ref 6) (.pair (.ref 4) (.pair (.ref 7) zT))))),120,0,[(0,2),(2,1),(3,1),(4,1),(5,1),(6,1)],false⟩,
 ⟨95,(.st (.pair zH (.pair (.ref 6) (.pair (.ref 4) (.pair (.ref 7) zT))))),120,0,[(0,2),(2,1),(3,1),(4,1),(5,1),(6,1)],false⟩,
 ⟨97, .fn,8,0,[],false⟩,
 ⟨98, .fn,8,0,[],false⟩,
 ⟨99,(.slice zI),24,3,[],false⟩,
 ⟨100,(.st (.pair (.slice zI) (.pair .str .unit))),40,0,[(0,1),(1,1)],false⟩,
 ⟨101,(.st (.pair (.slice zI) (.pair .str .unit))),40,0,[(0,1),(1,1)],false⟩,
 ⟨102, .fn,8,0,[],false⟩,
 ⟨103, .fn,8,0,[],false⟩,
 ⟨104,(.slice (.slice zI)),24,99,[],false⟩,
 ⟨105, .fn,8,0,[],false⟩,
 ⟨106,(.slice .str),24,39,[],false⟩,
 ⟨107, .fn,8,0,[],false⟩,
 ⟨109, .fn,8,0,[],false⟩,
 ⟨110, .fn,8,0,[],false⟩,
 ⟨111, .fn,8,0,[],false⟩,
 ⟨112, .fn,8,0,[],false⟩,
 ⟨113, .fn,8,0,[],false⟩,
 ⟨114, .fn,8,0,[],false⟩,
 ⟨115, .fn,8,0,[],false⟩,
 ⟨116, .fn,8,0,[],false⟩,
 ⟨117, .fn,8,0,[],false⟩,
 ⟨118, .str,16,0,[],false⟩,
 ⟨120, .fn,8,0,[],false⟩,
 ⟨121, .fn,8,0,[],false⟩,
 ⟨122, .fn,8,0,[],false⟩,
 ⟨123, .fn,8,0,[],false⟩,
 ⟨124, .fn,8,0,[],false⟩,
 ⟨125, .fn,8,0,[],false⟩,
 ⟨127, .fn,8,0,[],false⟩,
 ⟨129, .fn,8,0,[],false⟩,
 ⟨130, .fn,8,0,[],false⟩,
 ⟨131, .fn,8,0,[],false⟩,
 ⟨132, .fn,8,0,[],false⟩,
 ⟨133, .fn,8,0,[],false⟩,
 ⟨134, .fn,8,0,[],false⟩,
 ⟨135, .fn,8,0,[],false⟩,
 ⟨136,(.slice (.slice (.st zT))),24,40,[],false⟩,
 ⟨137, .fn,8,0,[],false⟩,
 ⟨138, .fn,8,0,[],false⟩,
 ⟨139, .fn,8,0,[],false⟩,
 ⟨141, .fn,8,0,[],false⟩,
 ⟨143, .fn,8,0,[],false⟩,
 ⟨145, .fn,8,0,[],false⟩,
 ⟨146, .fn,8,0,[],false⟩,
 ⟨147, .fn,8,0,[],false⟩,
 ⟨148, .fn,8,0,[],false⟩,
 ⟨149,(.int .u64),8,0,[],false⟩,
 ⟨150, .fn,8,0,[],false⟩,
 ⟨151, .fn,8,0,[],false⟩,
 ⟨152, .fn,8,0,[],false⟩,
 ⟨153, .fn,8,0,[],false⟩,
 ⟨154, .fn,8,0,[],false⟩,
 ⟨155, .fn,8,0,[],false⟩,
 ⟨156, .fn,8,0,[],false⟩,
 ⟨157, .fn,8,0,[],false⟩,
 ⟨158, .fn,8,0,[],false⟩,
 ⟨159, .fn,8,0,[],false⟩,
 ⟨160, .fn,8,0,[],false⟩,
 ⟨161, .fn,8,0,[],false⟩,
 ⟨163, .fn,8,0,[],false⟩,
 ⟨164, .fn,8,0,[],false⟩,
 ⟨165, .fn,8,0,[],false⟩,
 ⟨167, .fn,8,0,[],false⟩,
 ⟨168,(.int .u32),4,0,[],false⟩,
 ⟨169,(.slice (.int .u8)),24,5,[],false⟩,
 ⟨170, .fn,8,0,[],false⟩,
 ⟨171,(.int .u64),8,0,[],false⟩,
 ⟨172, .fn,8,0,[],false⟩,
 ⟨173, .fn,8,0,[],false⟩,
 ⟨175, .fn,8,0,[],false⟩,
 ⟨176, .fn,8,0,[],false⟩,
 ⟨177,zI,8,0,[],false⟩,
 ⟨179, .fn,8,0,[],false⟩,
 ⟨180, .fn,8,0,[],false⟩,
 ⟨181, .fn,8,0,[],false⟩,
 ⟨182, .fn,8,0,[],false⟩,
 ⟨183,zI,8,0,[],false⟩,
 ⟨185, .fn,8,0,[],false⟩,
 ⟨186, .fn,8,0,[],false⟩,
 ⟨187, .fn,8,0,[],false⟩,
 ⟨188, .fn,8,0,[],false⟩,
 ⟨189, .fn,8,0,[],false⟩,
 ⟨190, .fn,8,0,[],false⟩,
 ⟨191, .fn,8,0,[],false⟩,
 ⟨193, .fn,8,0,[],false⟩,
 ⟨194, .fn,8,0,[],false⟩,
 ⟨195, .fn,8,0,[],false⟩,
 ⟨196, .fn,8,0,[],false⟩,
 ⟨197, .fn,8,0,[],false⟩,
 ⟨198, .fn,8,0,[],false⟩,
 ⟨199, .fn,8,0,[],false⟩,
 ⟨200, .fn,8,0,[],false⟩,
 ⟨201, .fn,8,0,[],false⟩,
 ⟨202, .fn,8,0,[],false⟩,
 ⟨204, .fn,8,0,[],false⟩,
 ⟨205, .fn,8,0,[],false⟩,
 ⟨206, .fn,8,0,[],false⟩,
 ⟨207, .fn,8,0,[],false⟩,
 ⟨208,(.st zT),16,0,[(0,1),(1,1)],true⟩,
 ⟨209,(.int .u64),8,0,[],false⟩,
 ⟨210, .fn,8,0,[],false⟩,
 ⟨211, .fn,8,0,[],false⟩,
 ⟨212, .fn,8,0,[],false⟩,
 ⟨214, .fn,8,0,[],false⟩,
 ⟨216, .fn,8,0,[],false⟩,
 ⟨217, .fn,8,0,[],false⟩,
 ⟨218, .fn,8,0,[],false⟩,
 ⟨219, .fn,8,0,[],false⟩,
 ⟨220, .fn,8,0,[],false⟩,
 ⟨221, .fn,8,0,[],false⟩,
 ⟨224, .fn,8,0,[],false⟩,
 ⟨225, .fn,8,0,[],false⟩,
 ⟨227, .fn,8,0,[],false⟩,
 ⟨228, .fn,8,0,[],false⟩,
 ⟨234,(.int .u8),1,0,[],false⟩,
 ⟨235,(.int .u8),1,0,[],false⟩,
 ⟨236, .fn,8,0,[],false⟩,
 ⟨238,(.int .i32),4,0,[],false⟩,
 ⟨239,(.int .i32),4,0,[],false⟩]
def ab:List HT:=[⟨42,(.st zC),0⟩,⟨42,(.st zR),0⟩,⟨44,(.st zT),0⟩,⟨58,(.st zT),0⟩,⟨3,zI,0⟩,⟨95,(.st (.pair zH (.pair (.ref 6) (.pair (.ref 4) (.pair (.ref 7) zT))))),1⟩,⟨26,(.qj zI),0⟩,⟨4, .bool,0⟩,⟨101,(.st (.pair (.ref 4) (.pair .str .unit))),0⟩,⟨24,zH,0⟩]
def amQ:List (Nat×Nat):=[(100045,45),(100145,45),(100046,46),(100146,46),(100018,18),(100084,84),(101038,38),(102038,38),(100040,40),(100070,70),(100071,70),(100109,109),(100110,109)]
def real (v:Nat):Nat:=bif Nat.blt v 100000 then v else (Go.Abs.look amQ v).getD 0
def sigs:List (Nat×IS):=[
 (3,⟨[.v zH, .v zW],zB,none,[],none⟩),
 (4,⟨[.v zH, .v zW],zB,none,[],none⟩),
 (5,⟨[.v zH, .v zW],zB,none,[],none⟩),
 (6,⟨[.v zH, .v zW],zB,none,[],none⟩),
 (7,⟨[],zB,none,[],none⟩),
 (8,⟨[.v zW],zB,none,[],none⟩),
 (9,⟨[.v zW],zB,none,[],none⟩),
 (10,⟨[.v zW],zB,none,[],none⟩),
 (11,⟨[.v zW],zB,none,[],none⟩),
 (12,⟨[.v zH, .v zI],zB,none,[],none⟩),
 (13,⟨[],zB,none,[],none⟩),
 (14,⟨[.v zW, .v zI],[(zH,none)],none,[],none⟩),
 (15,⟨[.v zH],[((.st (.pair zI (.pair (.ref 0) .unit))),none)],none,[(0,true)],none⟩),
 (16,⟨[.v zH],[(zI,none)],none,[],none⟩),
 (17,⟨[.v zH],[(zH,none)],none,[],none⟩),
 (18,⟨[.v zH],[(zH,none),(zI,none)],none,[],none⟩),
 (19,⟨[.v zH, .v zH],zB,none,[],none⟩),
 (20,⟨[.v zH],[((.slice (.st zT)),none),((.st zT),none),(zI,none)],none,[],none⟩),
 (21,⟨[.v (.slice (.st zT)), .v (.st zT)],zB,none,[],none⟩),
 (22,⟨[.v zH],[((.slice (.st zT)),none),(zI,none),(zI,none)],none,[],none⟩),
 (23,⟨[.v (.slice (.st zT)), .v (.slice (.st zT))],zB,none,[],none⟩),
 (24,⟨[.v zH],[((.slice (.st zT)),none),((.st zT),none),(zI,none)],none,[],none⟩),
 (25,⟨[.v zH],[((.slice (.st zT)),none),(zI,none),(zI,none)],none,[],none⟩),
 (26,⟨[.v zH],[((.slice (.st zT)),none),((.st zT),none),(zI,none)],none,[],none⟩),
 (27,⟨[.v zH],[((.slice (.st zT)),none),(zI,none),(zI,none)],none,[],none⟩),
 (28,⟨[],[(zH,none)],none,[],none⟩),
 (29,⟨[.v zH],[((.slice (.st zT)),none)],none,[],none⟩),
 (30,⟨[.v (.slice (.st zT)), .v (.slice (.st zT))],zB,none,[],none⟩),
 (31,⟨[.v (.slice zI)],[((.slice (.st zT)),some 44)],none,[],none⟩),
 (32,⟨[.v (.slice (.slice zI)), .v (.slice zI), .v zI, .v zI, .v zI],[((.slice (.st (.pair (.slice zI) (.pair .str .unit)))),none)],none,[],none⟩),
 (33,⟨[.v (.slice (.st (.pair (.slice zI) (.pair .str .unit)))), .v zI],[(zH,none),(zI,none)],none,[],none⟩),
 (34,⟨[.v zI],[(zI,none)],none,[],none⟩),
 (35,⟨[.v zH, .v zI, .v zI, .v zI, .v zI],[(zH,none)],none,[],none⟩),
 (36,⟨[.v zI],zB,none,[],none⟩),
 (37,⟨[.v zH, .v zI],[(zI,none)],none,[],none⟩),
 (38,⟨[.v (.slice (.st zT)), .v zI],[((.slice zI),none)],none,[],none⟩),
 (39,⟨[.v .str],[(.str,none)],none,[],none⟩),
 (40,⟨[.v (.slice zI)],[((.slice (.st zT)),none)],none,[],none⟩),
 (41,⟨[.v zH],[(zI,none)],none,[],none⟩),
 (42,⟨[.v .str],[((.st (.pair (.st (.pair .bool (.pair (.slice (.int .u32)) .unit))) (.pair (.st (.pair .bool (.pair (.slice (.int .u32)) .unit))) .unit))),none),(.bool,none)],none,[],none⟩),
 (43,⟨[.v (.st (.pair (.st (.pair .bool (.pair (.slice (.int .u32)) .unit))) (.pair (.st (.pair .bool (.pair (.slice (.int .u32)) .unit))) .unit)))],[((.st (.pair (.st (.pair .bool (.pair (.slice (.int .u32)) .unit))) (.pair (.st (.pair .bool (.pair (.slice (.int .u32)) .unit))) .unit))),none)],none,[],none⟩),
 (44,⟨[.v (.st (.pair (.st (.pair .bool (.pair (.slice (.int .u32)) .unit))) (.pair (.st (.pair .bool (.pair (.slice (.int .u32)) .unit))) .unit)))],[(.str,none)],none,[],none⟩),
 (47,⟨[.v zH],[((.ptr 5),none)],none,[(5,true),(6,true),(4,true),(7,true)],none⟩),
 (48,⟨[.v (.ptr 5), .v zI],[],none,[(5,true),(6,true),(4,true),(7,true)],none⟩),
 (49,⟨[.v (.ptr 5)],[((.slice (.st zT)),none)],none,[(5,ff),(6,ff),(4,ff),(7,ff)],none⟩),
 (50,⟨[.v (.ref 3), .fn 51 []],[],none,[(3,true)],none⟩),
 (51,⟨[.v (.st zT), .v (.st zT)],[(zI,none)],none,[],none⟩),
 (52,⟨[.v zH, .v zI, .v zI],[(zI,none)],none,[],none⟩),
 (53,⟨[.v (.slice (.slice zI))],[((.slice (.slice zI)),none)],none,[],none⟩),
 (54,⟨[.v (.slice (.slice zI)), .v zI, .v zI, .v zI],[((.slice (.slice zI)),none)],none,[],none⟩),
 (55,⟨[.v zI],[(.str,none)],none,[],none⟩),
 (56,⟨[.v (.slice (.slice zI)), .v (.slice .str)],[((.slice (.st (.pair (.slice zI) (.pair .str .unit)))),none),(zI,none)],none,[],none⟩),
 (57,⟨[.v (.slice (.st (.pair (.slice zI) (.pair .str .unit))))],[(zI,none)],none,[],none⟩),
 (58,⟨[.v (.slice zI)],[((.slice (.slice zI)),none)],none,[],none⟩),
 (59,⟨[.v (.slice zI), .v (.slice zI)],[(zI,none)],none,[],none⟩),
 (60,⟨[.v zI, .v zI],[(zI,none)],none,[],none⟩),
 (61,⟨[.v .str],zB,none,[],none⟩),
 (62,⟨[.v zI, .v (.slice (.st zT))],[(zI,none)],none,[],none⟩),
 (63,⟨[.v zH, .v (.slice (.st zT))],[((.slice zI),none)],none,[],none⟩),
 (64,⟨[.v .str, .v .str],[(zI,none)],none,[],none⟩),
 (65,⟨[.v .str],[(.str,none),(.str,none),(.bool,none)],none,[],none⟩),
 (66,⟨[.v .str],[(.str,none)],none,[],none⟩),
 (67,⟨[.v zI],zB,none,[],none⟩),
 (68,⟨[.v .str],zB,none,[],none⟩),
 (69,⟨[.v zI, .v (.slice (.st zT))],[(zI,none)],none,[],none⟩),
 (71,⟨[.v (.st zT), .rp zI],zB,none,[],none⟩),
 (72,⟨[.v (.st zT), .rp zH, .rp (.st zC)],zB,none,[],none⟩),
 (73,⟨[.v zH, .v (.slice (.st zT))],[((.slice (.st zT)),none)],none,[],none⟩),
 (74,⟨[.v (.st (.pair (.st (.pair .bool (.pair (.slice (.int .u32)) .unit))) (.pair (.st (.pair .bool (.pair (.slice (.int .u32)) .unit))) .unit))), .v (.st (.pair (.st (.pair .bool (.pair (.slice (.int .u32)) .unit))) (.pair (.st (.pair .bool (.pair (.slice (.int .u32)) .unit))) .unit)))],[(zI,none)],none,[],none⟩),
 (75,⟨[.v .str, .v .str],[(.str,none),(.str,none),(.bool,none)],none,[],none⟩),
 (76,⟨[.v .str],[((.st (.pair .bool (.pair (.slice (.int .u32)) .unit))),none),(.bool,none)],none,[],none⟩),
 (77,⟨[.v zI],[((.st (.pair .bool (.pair (.slice (.int .u32)) .unit))),none)],none,[],none⟩),
 (78,⟨[.v (.st (.pair .bool (.pair (.slice (.int .u32)) .unit)))],[(zI,none)],none,[],none⟩),
 (79,⟨[.v (.st (.pair .bool (.pair (.slice (.int .u32)) .unit))), .v (.st (.pair .bool (.pair (.slice (.int .u32)) .unit)))],[(zI,none)],none,[],none⟩),
 (80,⟨[.v (.st (.pair .bool (.pair (.slice (.int .u32)) .unit))), .v (.st (.pair .bool (.pair (.slice (.int .u32)) .unit)))],[((.st (.pair .bool (.pair (.slice (.int .u32)) .unit))),none)],none,[],none⟩),
 (81,⟨[.v (.st (.pair .bool (.pair (.slice (.int .u32)) .unit)))],[((.st (.pair .bool (.pair (.slice (.int .u32)) .unit))),none)],none,[],none⟩),
 (82,⟨[.v (.st (.pair (.st (.pair .bool (.pair (.slice (.int .u32)) .unit))) (.pair (.st (.pair .bool (.pair (.slice (.int .u32)) .unit))) .unit)))],[((.st (.pair .bool (.pair (.slice (.int .u32)) .unit))),none)],none,[],none⟩),
 (83,⟨[.v (.st (.pair .bool (.pair (.slice (.int .u32)) .unit)))],[(.str,none)],none,[],none⟩),
 (84,⟨[.v (.slice (.st zT))],[((.slice (.st zT)),none)],none,[],none⟩),
 (85,⟨[.v (.slice (.st zT))],[(zI,none),(.bool,none)],none,[],none⟩),
 (86,⟨[.v zI, .v zI],[(zI,none),(zI,none)],none,[],none⟩),
 (87,⟨[.v zI, .v (.slice (.st zT)), .v zI, .v (.slice (.st zT))],[((.slice (.st zT)),none),(zI,none)],none,[],none⟩),
 (88,⟨[.v zI, .v zI],[(zI,none)],none,[],none⟩),
 (89,⟨[.v (.slice zI)],[(zI,none)],none,[],none⟩),
 (90,⟨[.v (.ref 3), .v zI, .v zI, .v zI, .fn 51 []],[],none,[(3,true)],none⟩),
 (91,⟨[.v (.int .u64)],[(zI,none)],none,[],none⟩),
 (92,⟨[.v zI, .v (.slice (.slice zI))],[(zI,none)],none,[],none⟩),
 (93,⟨[.v (.slice zI), .v zI, .v zI],[((.slice zI),none)],none,[],none⟩),
 (94,⟨[.v (.slice (.slice zI))],[((.slice (.slice zI)),none)],none,[],none⟩),
 (95,⟨[.v zI, .v zI],[(.str,none)],none,[],none⟩),
 (96,⟨[.v (.slice (.slice zI))],[(zI,none)],none,[],none⟩),
 (97,⟨[.v (.slice zI), .v (.slice zI)],zB,none,[],none⟩),
 (98,⟨[.v (.slice (.st (.pair (.slice zI) (.pair .str .unit))))],[((.slice (.st (.pair (.slice zI) (.pair .str .unit)))),none)],none,[],none⟩),
 (99,⟨[.v (.slice (.st (.pair (.slice zI) (.pair .str .unit)))), .v zI],[(zI,none)],none,[],none⟩),
 (100,⟨[.v (.slice (.st (.pair (.slice zI) (.pair .str .unit)))), .v zI, .v (.slice zI)],[(zI,none)],none,[],none⟩),
 (101,⟨[.v (.slice zI), .v zI],[((.slice zI),none)],none,[],none⟩),
 (102,⟨[.v .str],zB,none,[],none⟩),
 (103,⟨[.v .str],zB,none,[],none⟩),
 (104,⟨[.v .str, .v .str],[(zI,none)],none,[],none⟩),
 (105,⟨[.v .str, .v .str],[(.str,none)],none,[],none⟩),
 (106,⟨[.v .str],[(.bool,none),((.slice zI),none)],none,[],none⟩),
 (107,⟨[.v .bool, .v (.slice zI)],[(.str,none)],none,[],none⟩),
 (108,⟨[.v .str],[((.st (.pair (.st (.pair .bool (.pair (.slice (.int .u32)) .unit))) (.pair (.st (.pair .bool (.pair (.slice (.int .u32)) .unit))) .unit))),none),(.bool,none)],none,[],none⟩),
 (110,⟨[.v (.st (.pair .bool (.pair (.slice (.int .u32)) .unit))), .v (.st (.pair .bool (.pair (.slice (.int .u32)) .unit)))],[((.st (.pair .bool (.pair (.slice (.int .u32)) .unit))),none)],none,[],none⟩),
 (111,⟨[.v .str, .v .str],[(.str,none),(.str,none),(.bool,none)],none,[],none⟩),
 (112,⟨[.v .str, .v .str],[(.str,none),(.bool,none)],none,[],none⟩),
 (113,⟨[.v .bool, .v (.slice (.int .u32))],[((.st (.pair .bool (.pair (.slice (.int .u32)) .unit))),none)],none,[],none⟩),
 (114,⟨[.v (.slice (.int .u32)), .v (.slice (.int .u32))],[(zI,none)],none,[],none⟩),
 (115,⟨[.v zI, .v zI],[(zI,none)],none,[],none⟩),
 (116,⟨[.v (.slice (.int .u32))],[(zI,none)],none,[],none⟩),
 (117,⟨[.v (.slice (.int .u32)), .v (.slice (.int .u32))],[((.slice (.int .u32)),none),((.slice (.int .u32)),none)],none,[],none⟩),
 (118,⟨[.v (.slice (.int .u32))],[((.slice (.int .u32)),none)],none,[],none⟩),
 (119,⟨[.v zI],[(zI,none),(zI,none)],none,[],none⟩),
 (120,⟨[.v zI, .v zI],[(zI,none)],none,[],none⟩),
 (121,⟨[.v zI, .v zI],[(zI,none)],none,[],none⟩),
 (122,⟨[.v zI, .v (.slice (.slice (.st zT)))],[(zI,none)],none,[],none⟩),
 (123,⟨[.v zI, .v (.slice (.st zT)), .v zI, .v (.slice (.st zT))],[((.slice (.st zT)),none)],none,[],none⟩),
 (124,⟨[.v (.ref 3), .v zI, .v zI, .fn 51 []],[],none,[(3,true)],none⟩),
 (125,⟨[.v (.ref 3), .v zI, .v zI, .fn 51 []],[],none,[(3,true)],none⟩),
 (126,⟨[.v (.ref 3), .v zI, .v zI, .fn 51 []],[],none,[(3,true)],none⟩),
 (127,⟨[.v (.ref 3), .v zI, .v zI, .fn 51 []],[(zI,none),(zI,none)],none,[(3,true)],none⟩),
 (128,⟨[.v (.ref 3), .v zI, .v zI, .fn 51 []],[],none,[(3,true)],none⟩),
 (129,⟨[.v (.ref 3), .v zI, .v zI, .fn 51 []],zB,none,[(3,true)],none⟩),
 (130,⟨[.v (.ref 3), .v zI, .v zI, .v zI, .fn 51 []],[(zI,none)],none,[(3,true)],none⟩),
 (131,⟨[.v (.ref 3), .v zI, .v zI, .v zI, .fn 51 []],[(zI,none),(.bool,none)],none,[(3,true)],none⟩),
 (132,⟨[.v (.int .u32)],[(zI,none)],none,[],none⟩),
 (133,⟨[.v (.int .u64)],[(zI,none)],none,[],none⟩),
 (134,⟨[.v (.slice zI), .v zI],zB,none,[],none⟩),
 (135,⟨[.v (.slice zI)],[((.slice zI),none),(zI,none)],none,[],none⟩),
 (136,⟨[.v (.slice zI)],[((.slice (.slice zI)),none)],none,[],none⟩),
 (137,⟨[.v (.slice (.slice zI)), .v (.slice zI)],[((.slice (.slice zI)),none)],none,[],none⟩),
 (138,⟨[.v .str, .v .str],[(.str,none)],none,[],none⟩),
 (139,⟨[.v zI],[(.str,none)],none,[],none⟩),
 (140,⟨[.v (.slice zI)],[(zI,none)],none,[],none⟩),
 (141,⟨[.v (.slice (.slice zI)), .v (.slice zI)],[(zI,none)],none,[],none⟩),
 (142,⟨[.v (.slice (.st (.pair (.slice zI) (.pair .str .unit))))],[((.ref 8),none)],none,[(8,true),(4,true)],none⟩),
 (143,⟨[.v .str],zB,none,[],none⟩),
 (144,⟨[.v .str],zB,none,[],none⟩),
 (145,⟨[.v .str, .v .str],[(.str,none)],none,[],none⟩),
 (146,⟨[.v (.slice zI), .v (.slice zI)],[(zI,none)],none,[],none⟩),
 (147,⟨[.v .str],[(zI,none),(.bool,none)],none,[],none⟩),
 (148,⟨[.v (.slice zI)],[((.slice zI),none)],none,[],none⟩),
 (149,⟨[.v (.st (.pair (.st (.pair .bool (.pair (.slice (.int .u32)) .unit))) (.pair (.st (.pair .bool (.pair (.slice (.int .u32)) .unit))) .unit)))],zB,none,[],none⟩),
 (150,⟨[.v .str, .v .str],[(zI,none)],none,[],none⟩),
 (151,⟨[.v .str, .v .str],[(.str,none),(.bool,none)],none,[],none⟩),
 (152,⟨[.v (.slice (.int .u32)), .v (.int .u32)],[((.slice (.int .u32)),none),((.int .u32),none)],none,[],none⟩),
 (153,⟨[.v (.slice (.int .u32)), .v (.slice (.int .u32))],[((.slice (.int .u32)),none),((.slice (.int .u32)),none)],none,[],none⟩),
 (154,⟨[.v zI, .v zI, .v zI],[(zI,none)],none,[],none⟩),
 (155,⟨[.v (.slice (.st zT)), .v (.slice (.st zT))],[],some (171,[(.slice (.st zT)),(.slice (.st zT))]),[],none⟩),
 (156,⟨[.v (.ref 3), .v zI, .v zI, .v zI, .fn 51 []],[],none,[(3,true)],none⟩),
 (157,⟨[.v zI],[((.int .u64),none)],none,[],none⟩),
 (161,⟨[.v .str, .v .str],[(.str,none),(.str,none)],none,[],none⟩),
 (162,⟨[.v .str],[(zI,none)],none,[],none⟩),
 (163,⟨[.v .str],[(.str,none)],none,[],none⟩),
 (164,⟨[.v (.st (.pair .bool (.pair (.slice (.int .u32)) .unit)))],zB,none,[],none⟩),
 (165,⟨[.v .str, .v (.int .u8)],[(zI,none)],none,[],none⟩),
 (167,⟨[.v zI],[(zI,none)],none,[],none⟩),
 (168,⟨[.v .str, .v .str],[(zI,none)],none,[],none⟩),
 (169,⟨[.v .str, .v .str],zB,none,[],none⟩),
 (170,⟨[.v (.slice (.int .u32)), .v (.int .u32)],[((.slice (.int .u32)),some 168)],none,[],none⟩),
 (171,⟨[.LM, .bx (.slice (.st zT)), .bx (.slice (.st zT))],[],none,[],some [zI,(.st zT)]⟩),
 (173,⟨[.v (.slice zI), .v (.slice zI)],[((.slice zI),none)],none,[],none⟩),
 (174,⟨[.v .str, .v .str],[(.str,none)],none,[],none⟩),
 (175,⟨[.v .str, .v .str],[(.str,none)],none,[],none⟩),
 (176,⟨[.v (.st (.pair .bool (.pair (.slice (.int .u32)) .unit)))],[(zI,none)],none,[],none⟩),
 (178,⟨[.v .str],[((.int .u32),none),((.int .u32),none)],none,[],none⟩),
 (179,⟨[.v (.slice zI), .v (.slice zI)],[((.slice zI),none)],none,[],none⟩),
 (196,⟨[.v zH],[],some (197,[zH]),[],none⟩),
 (197,⟨[.LM, .bx zH],[],none,[],some [zI]⟩),
 (198,⟨[.v zH],[],some (199,[zH]),[],none⟩),
 (199,⟨[.LM, .bx zH],[],none,[],some [zI]⟩),
 (100045,⟨[.v zH, .c [⟨.fn,(197:Nat)⟩,⟨.bool,false⟩], .fn 46 []],[((.ref 3),none),((.st zT),none),(zI,none)],none,[(3,true)],none⟩),
 (100145,⟨[.v zH, .c [⟨.fn,(199:Nat)⟩,⟨.bool,true⟩], .fn 46 []],[((.ref 3),none),((.st zT),none),(zI,none)],none,[(3,true)],none⟩),
 (100046,⟨[.c [⟨.fn,(197:Nat)⟩,⟨.bool,false⟩], .v zH],[((.ref 3),none),((.st zT),none)],none,[(3,true)],none⟩),
 (100146,⟨[.c [⟨.fn,(199:Nat)⟩,⟨.bool,true⟩], .v zH],[((.ref 3),none),((.st zT),none)],none,[(3,true)],none⟩),
 (100018,⟨[.v zH],[((.st (.pair zI (.pair (.ref 1) .unit))),none),(zI,none)],none,[(1,true),(2,true)],none⟩),
 (100084,⟨[.v (.qj (.st zT))],[((.slice (.st zT)),none)],none,[],none⟩),
 (101038,⟨[.v (.slice (.st zT)), .v zI],[((.slice zI),some 3)],none,[],none⟩),
 (102038,⟨[.v (.slice (.st zT)), .v zI],[((.ref 4),none)],none,[(4,true)],none⟩),
 (100040,⟨[.v (.ref 4)],[((.slice (.st zT)),none)],none,[(4,ff)],none⟩),
 (100070,⟨[.v (.slice (.st zT)), .fn 71 [zI]],zB,none,[],none⟩),
 (100071,⟨[.v (.slice (.st zT)), .fn 72 [zH,(.st zC)]],zB,none,[],none⟩),
 (100109,⟨[.v (.slice (.st zT)), .fn 71 [zI]],[(zI,none)],none,[],none⟩),
 (100110,⟨[.v (.slice (.st zT)), .fn 72 [zH,(.st zC)]],[(zI,none)],none,[],none⟩)]
def sig (v:Nat):IS:=(Go.Abs.look sigs v).getD ⟨[],[],none,[],none⟩
def amR:List (Nat×List Nat):=[(45,[100045,100145]),(46,[100046,100146]),(70,[100070,100071]),(109,[100109,100110])]
def ah7 (f:Nat):List Nat:=(Go.Abs.look amR f).getD [f]
def hints:List (Nat×List (List (Nat×Bool))):=[
 (3,[[(21,ff),(22,ff),(23,ff)],[(6,ff),(7,ff),(8,ff),(9,ff),(10,ff),(21,ff),(22,ff),(23,ff)],[(6,ff),(7,ff),(8,ff),(9,ff),(10,ff),(11,ff),(21,ff),(22,ff),(23,ff),(61,ff),(62,ff)],[(6,ff),(7,ff),(8,ff),(9,ff),(10,ff),(11,ff),(13,ff),(21,ff),(22,ff),(23,ff),(61,ff),(62,ff),(71,ff),(72,ff)]]),
 (4,[[(20,ff),(21,ff),(22,ff)]]),
 (5,[[(20,ff),(21,ff),(22,ff)]]),
 (6,[[(20,ff),(21,ff),(22,ff)]]),
 (9,[[(4,ff),(10,ff),(60,ff),(61,ff),(62,ff)],[(4,ff),(10,ff),(15,ff),(16,ff),(60,ff),(61,ff),(62,ff),(86,ff),(87,ff),(88,ff)]]),
 (10,[[(5,ff),(6,ff),(8,ff),(9,ff),(11,ff),(12,ff),(13,ff),(38,ff),(39,ff),(40,ff)]]),
 (12,[[(13,ff),(14,ff),(15,ff)]]),
 (14,[[(2,ff),(4,ff),(7,ff),(9,ff)],[(2,ff),(4,ff),(7,ff),(9,ff),(10,ff),(11,ff),(12,ff)]]),
 (15,[[(1,ff),(2,ff),(3,ff),(4,ff)]]),
 (16,[[(1,ff),(3,ff)]]),
 (17,[[(1,ff),(2,ff),(3,ff),(4,ff),(5,ff)],[(1,ff),(2,ff),(3,ff),(4,ff),(5,ff),(6,ff),(7,ff),(8,ff)]]),
 (18,[[(1,ff),(2,ff),(5,ff),(6,ff),(34,ff),(35,ff)],[(1,ff),(2,ff),(5,ff),(6,ff),(11,ff)],[(1,ff),(2,ff),(5,ff),(6,ff),(11,ff),(78,ff),(79,ff),(80,ff)]]),
 (19,[[(2,ff),(3,ff),(5,ff)]]),
 (22,[[(1,ff),(5,ff),(6,ff)]]),
 (23,[[(0,ff),(1,ff),(5,ff)]]),
 (25,[[(1,ff),(5,ff),(6,ff)],[(1,ff),(5,ff),(6,ff),(7,ff)]]),
 (26,[[(3,ff),(7,ff),(8,ff),(9,ff),(31,ff),(32,ff),(33,ff)]]),
 (27,[[(5,ff),(6,ff),(7,ff),(8,ff),(9,ff),(10,ff)],[(5,ff),(6,ff),(7,ff),(8,ff),(9,ff),(11,ff)],[(5,ff),(7,ff),(8,ff),(9,ff),(12,ff),(13,ff)]]),
 (29,[[(1,ff),(3,ff),(4,ff),(5,ff)],[(1,ff),(3,ff),(4,ff),(5,ff),(6,ff)],[(3,ff),(4,ff),(7,ff),(8,ff),(9,ff)],[(3,ff),(4,ff),(7,ff),(8,ff),(9,ff),(10,ff)],[(3,ff),(7,ff),(8,ff),(11,ff),(12,ff)]]),
 (30,[[(0,ff),(1,ff),(5,ff)]]),
 (31,[[(0,ff),(3,ff),(4,ff)]]),
 (32,[[(1,ff),(11,ff),(12,ff),(13,ff)]]),
 (33,[[(0,ff),(1,ff),(4,ff),(7,ff),(8,ff)],[(0,ff),(1,ff),(4,ff),(7,ff),(8,ff),(9,ff),(10,ff),(11,ff)],[(0,ff),(1,ff),(4,ff),(7,ff),(8,ff),(9,ff),(10,ff),(11,ff),(12,ff)]]),
 (35,[[(1,ff),(2,ff),(3,ff),(4,ff),(5,ff),(10,ff),(11,ff),(12,ff),(13,ff),(14,ff),(15,ff),(16,ff)],[(1,ff),(2,ff),(4,ff),(5,ff),(10,ff),(11,ff),(12,ff),(17,ff)]]),
 (36,[[(0,ff),(3,ff)]]),
 (37,[[(1,ff),(2,ff),(5,ff),(7,ff)],[(1,ff),(2,ff),(5,ff),(8,ff)]]),
 (38,[[(0,ff),(5,ff),(6,ff)]]),
 (40,[[(0,ff),(3,ff),(4,ff)]]),
 (41,[[(1,ff),(3,ff),(18,ff),(19,ff),(20,ff)]]),
 (48,[[(0,ff),(1,ff),(4,ff),(5,ff)],[(0,ff),(1,ff),(4,ff),(5,ff),(6,ff),(7,ff),(8,ff)]]),
 (49,[[(0,ff),(3,ff),(4,ff)]]),
 (52,[[(1,ff),(2,ff),(3,ff),(7,ff),(8,ff)]]),
 (53,[[(0,ff),(3,ff),(4,ff)]]),
 (54,[[(0,ff),(1,ff),(2,ff),(3,ff),(9,ff),(10,ff)],[(11,ff),(37,ff),(38,ff),(39,ff)]]),
 (56,[[(0,ff),(1,ff),(7,ff)],[(0,ff),(1,ff),(8,ff),(9,ff)],[(0,ff),(1,ff),(8,ff),(9,ff),(10,ff),(11,ff)]]),
 (57,[[(0,ff),(3,ff)],[(0,ff),(3,ff),(5,ff),(6,ff)]]),
 (58,[[(0,ff),(3,ff),(4,ff)]]),
 (59,[[(0,ff),(1,ff),(5,ff)]]),
 (60,[[(0,ff),(1,ff),(5,ff)]]),
 (62,[[(0,ff),(1,ff),(5,ff)]]),
 (63,[[(1,ff),(2,ff),(5,ff),(6,ff)],[(1,ff),(2,ff),(5,ff),(6,ff),(7,ff),(8,ff)]]),
 (65,[[(0,ff),(5,ff)]]),
 (67,[[(0,ff),(4,ff)]]),
 (69,[[(0,ff),(1,ff),(10,ff),(11,ff),(12,ff)]]),
 (73,[[(2,ff),(4,ff),(7,ff),(8,ff),(9,ff)]]),
 (76,[[(2,ff),(4,ff),(5,ff),(6,ff),(7,ff)],[(2,ff),(4,ff),(5,ff),(6,ff),(7,ff),(8,ff),(44,ff),(45,ff),(46,ff)]]),
 (77,[[(2,ff),(3,ff),(4,ff),(5,ff)]]),
 (80,[[(4,ff),(5,ff),(6,ff)]]),
 (83,[[(1,ff),(3,ff),(19,ff),(20,ff),(21,ff)],[(1,ff),(3,ff),(5,ff),(19,ff),(20,ff),(21,ff),(25,ff)],[(1,ff),(3,ff)],[(3,ff),(6,ff),(7,ff)]]),
 (89,[[(0,ff),(3,ff)]]),
 (90,[[(0,ff),(1,ff),(2,ff),(3,ff),(4,ff),(10,ff),(11,ff)]]),
 (92,[[(0,ff),(1,ff),(5,ff),(6,ff)],[(0,ff),(5,ff),(7,ff),(8,ff)],[(0,ff),(5,ff),(7,ff),(8,ff),(9,ff)],[(0,ff),(5,ff),(7,ff),(8,ff),(10,ff),(11,ff)],[(0,ff),(5,ff),(7,ff),(8,ff),(10,ff),(11,ff),(12,ff),(13,ff)]]),
 (93,[[(0,ff),(1,ff),(2,ff),(7,ff),(8,ff)]]),
 (94,[[(0,ff),(3,ff),(4,ff)],[(0,ff),(3,ff),(4,ff),(5,ff),(6,ff)]]),
 (96,[[(0,ff),(3,ff)],[(0,ff),(3,ff),(5,ff),(6,ff)]]),
 (97,[[(0,ff),(1,ff),(5,ff)]]),
 (98,[[(3,ff),(4,ff)],[(3,ff),(4,ff),(5,ff)]]),
 (100,[[(0,ff),(1,ff),(2,ff),(7,ff)]]),
 (101,[[(0,ff),(1,ff),(5,ff),(6,ff)]]),
 (105,[[(9,ff),(10,ff),(11,ff),(12,ff),(13,ff),(14,ff)],[(9,ff),(10,ff),(11,ff),(12,ff),(13,ff),(14,ff),(15,ff)],[(9,ff),(11,ff),(13,ff),(16,ff)]]),
 (106,[[(0,ff),(4,ff),(5,ff),(6,ff)]]),
 (107,[[(1,ff),(5,ff),(6,ff)]]),
 (110,[[(2,ff),(3,ff),(4,ff),(5,ff),(20,ff),(21,ff),(22,ff)],[(2,ff),(3,ff),(4,ff),(5,ff),(6,ff),(7,ff),(8,ff),(20,ff),(21,ff),(22,ff),(28,ff),(29,ff),(30,ff)]]),
 (114,[[(0,ff),(1,ff),(5,ff)]]),
 (115,[[(0,ff),(1,ff)]]),
 (116,[[(0,ff),(3,ff),(4,ff)]]),
 (118,[[(0,ff)]]),
 (122,[[(0,ff),(8,ff),(9,ff),(10,ff)]]),
 (123,[[(4,ff),(6,ff),(9,ff)]]),
 (124,[[(0,ff),(1,ff),(2,ff),(3,ff),(8,ff)],[(0,ff),(1,ff),(2,ff),(3,ff),(8,ff),(9,ff)]]),
 (125,[[(0,ff),(3,ff),(8,ff),(9,ff),(10,ff),(11,ff)],[(0,ff),(3,ff),(8,ff),(9,ff),(12,ff)]]),
 (126,[[(0,ff),(1,ff),(8,ff),(9,ff),(10,ff),(11,ff)]]),
 (128,[[(0,ff),(8,ff),(9,ff)]]),
 (129,[[(0,ff),(1,ff),(2,ff),(3,ff),(9,ff),(10,ff)],[(0,ff),(1,ff),(2,ff),(3,ff),(9,ff),(10,ff)],[(0,ff),(1,ff),(2,ff),(3,ff),(9,ff),(10,ff),(11,ff)],[(0,ff),(1,ff),(2,ff),(3,ff),(9,ff),(10,ff),(12,ff)]]),
 (130,[[(0,ff),(1,ff),(4,ff),(11,ff),(12,ff)],[(0,ff),(1,ff),(4,ff),(11,ff),(12,ff)],[(0,ff),(1,ff),(4,ff),(11,ff),(12,ff)]]),
 (131,[[(0,ff),(1,ff),(4,ff),(12,ff),(13,ff)],[(0,ff),(1,ff),(4,ff),(12,ff),(13,ff)],[(0,ff),(1,ff),(4,ff),(12,ff),(13,ff)],[(0,ff),(1,ff),(4,ff),(12,ff),(13,ff)],[(0,ff),(1,ff),(4,ff),(12,ff),(13,ff)]]),
 (134,[[(0,ff),(1,ff),(5,ff)]]),
 (135,[[(4,ff),(5,ff),(6,ff)],[(4,ff),(5,ff),(6,ff),(7,ff)]]),
 (136,[[(0,ff),(3,ff),(4,ff)],[(0,ff),(3,ff),(4,ff),(5,ff),(6,ff)]]),
 (137,[[(0,ff),(1,ff),(5,ff),(6,ff),(7,ff)]]),
 (139,[[(3,ff),(5,ff)],[(0,ff),(6,ff)]]),
 (140,[[(0,ff),(3,ff)],[(0,ff),(4,ff)]]),
 (141,[[(0,ff),(1,ff),(5,ff)]]),
 (142,[[(0,ff),(3,ff),(4,ff)]]),
 (144,[[(3,ff),(4,ff)]]),
 (145,[[(5,ff),(6,ff)]]),
 (146,[[(0,ff),(1,ff),(5,ff)]]),
 (147,[[(0,ff),(4,ff),(5,ff)]]),
 (148,[[(0,ff)]]),
 (150,[[(0,ff),(1,ff),(5,ff),(6,ff),(7,ff),(8,ff),(9,ff),(10,ff)]]),
 (152,[[(0,ff),(1,ff),(6,ff),(7,ff),(8,ff)]]),
 (153,[[(4,ff),(6,ff),(7,ff),(8,ff),(9,ff),(10,ff)],[(4,ff),(6,ff),(7,ff),(8,ff),(9,ff),(10,ff),(12,ff),(13,ff)],[(4,ff),(6,ff),(7,ff),(8,ff),(9,ff),(10,ff),(12,ff),(14,ff),(123,ff),(124,ff)],[(4,ff),(6,ff),(7,ff),(8,ff),(9,ff),(10,ff),(12,ff),(17,ff),(18,ff),(188,ff),(189,ff)]]),
 (154,[[(0,ff),(2,ff),(7,ff),(8,ff)]]),
 (156,[[(0,ff),(2,ff),(3,ff),(4,ff),(10,ff)]]),
 (161,[[(1,ff),(12,ff),(13,ff),(14,ff),(15,ff),(17,ff),(18,ff),(19,ff)],[(1,ff),(12,ff),(13,ff),(14,ff),(15,ff),(17,ff),(18,ff),(19,ff),(20,ff)],[(1,ff),(12,ff),(14,ff),(17,ff),(18,ff),(21,ff)]]),
 (168,[[(0,ff),(1,ff),(5,ff),(6,ff),(7,ff),(8,ff),(9,ff)],[(0,ff),(1,ff),(5,ff),(6,ff),(7,ff),(8,ff),(10,ff)]]),
 (170,[[(1,ff),(5,ff),(6,ff),(13,ff),(14,ff),(15,ff)]]),
 (171,[[(0,ff),(1,ff),(2,ff)]]),
 (173,[[(0,ff),(1,ff),(5,ff),(6,ff),(7,ff)]]),
 (176,[[(3,ff),(4,ff)]]),
 (178,[[(0,ff),(4,ff),(5,ff)],[(4,ff),(6,ff),(7,ff),(8,ff)]]),
 (179,[[(0,ff),(1,ff),(5,ff),(6,ff),(7,ff)]]),
 (197,[[(0,ff),(6,ff),(7,ff)]]),
 (199,[[(0,ff),(1,ff),(3,ff)],[(0,ff),(1,ff),(3,ff),(11,ff),(12,ff),(13,ff)]]),
 (100046,[[(2,ff),(3,ff),(4,ff),(5,ff),(7,ff),(8,ff),(27,ff),(28,ff)],[(2,ff),(3,ff),(4,ff),(5,ff),(7,ff),(8,ff)],[(3,ff),(5,ff),(7,ff),(8,ff),(10,ff),(11,ff),(12,ff),(13,ff)],[(4,ff),(5,ff),(137,ff),(138,ff),(139,ff)]]),
 (100146,[[(2,ff),(3,ff),(4,ff),(5,ff),(7,ff),(8,ff),(27,ff),(28,ff)],[(2,ff),(3,ff),(4,ff),(5,ff),(7,ff),(8,ff)],[(3,ff),(5,ff),(7,ff),(8,ff),(10,ff),(11,ff),(12,ff),(13,ff)],[(4,ff),(5,ff),(137,ff),(138,ff),(139,ff)]]),
 (100018,[[(1,ff),(2,ff),(5,ff),(6,ff),(34,ff),(35,ff)],[(1,ff),(2,ff),(5,ff),(6,ff),(11,ff)],[(1,ff),(2,ff),(5,ff),(6,ff),(11,ff),(78,ff),(79,ff),(80,ff)]]),
 (101038,[[(0,ff),(5,ff),(6,ff)]]),
 (102038,[[(0,ff),(5,ff),(6,ff)]]),
 (100040,[[(0,ff),(3,ff),(4,ff)]]),
 (100109,[[(0,ff),(1,ff),(7,ff),(8,ff)]]),
 (100110,[[(0,ff),(1,ff),(7,ff),(8,ff)]])]
def hint (v:Nat):List (List (Nat×Bool)):=(Go.Abs.look hints v).getD []
def ak4:List (Nat×List (Nat×Site)):=[(3,[(21, .heap 9),(41, .vid 100018)]),(4,[(20, .heap 9)]),(5,[(20, .heap 9)]),(6,[(20, .heap 9)]),(17,[(29, .heap 4),(64, .vid 100040)]),(18,[(30, .heap 1)]),(33,[(32, .heap 4),(87, .vid 100040)]),(35,[(28, .heap 4),(78, .vid 100040),(99, .vid 102038),(145, .vid 100040)]),(47,[(9, .heap 6),(11, .heap 4),(13, .heap 7)]),(48,[(29, .vid 101038)]),(142,[(2, .heap 8),(3, .heap 8),(12, .heap 4),(25, .heap 8)]),(100045,[(6, .heap 3)]),(100145,[(6, .heap 3)]),(100046,[(4, .heap 3),(23, .qj)]),(100146,[(4, .heap 3),(23, .qj)]),(100018,[(30, .heap 1)]),(102038,[(4, .heap 4),(8, .heap 4)])]
def sites (v:Nat):List (Nat×Site):=(Go.Abs.look ak4 v).getD []
def T:cp:=⟨tys,ab,real,sig,ah7,hint,sites,[(1000000000, .pd [⟨.fn,(197:Nat)⟩,⟨.bool,false⟩]),(1000000001, .pd [⟨.fn,(199:Nat)⟩,⟨.bool,true⟩])],[48,58,44]⟩
noncomputable def fns:List (Nat×Func):=[
 (3,Tryz.f3),(4,Tryz.f4),(5,Tryz.f5),(6,Tryz.f6),(7,Tryz.f7),(8,Tryz.f8),(9,Tryz.f9),(10,Tryz.f10),(11,Tryz.f11),(12,Tryz.f12),(13,Tryz.f13),(14,Tryz.f14),(15,Tryz.f15),(16,Tryz.f16),(17,Tryz.f17),(18,Tryz.f18),(19,Tryz.f19),(20,Tryz.f20),(21,Tryz.f21),(22,Tryz.f22),(23,Tryz.f23),(24,Tryz.f24),(25,Tryz.f25),(26,Tryz.f26),(27,Tryz.f27),(28,Tryz.f28),(29,Tryz.f29),(30,Tryz.f30),(31,Tryz.f31),(32,Tryz.f32),(33,Tryz.f33),(34,Tryz.f34),(35,Tryz.f35),(36,Tryz.f36),(37,Tryz.f37),(38,Tryz.f38),(39,Tryz.f39),(40,Tryz.f40),(41,Tryz.f41),(42,Tryz.f42),(43,Tryz.f43),(44,Tryz.f44),(47,Tryz.f47),(48,Tryz.f48),(49,Tryz.f49),(50,Tryz.f50),(51,Tryz.f51),(52,Tryz.f52),(53,Tryz.f53),(54,Tryz.f54),(55,Tryz.f55),(56,Tryz.f56),(57,Tryz.f57),(58,Tryz.f58),(59,Tryz.f59),(60,Tryz.f60),(61,Tryz.f61),(62,Tryz.f62),(63,Tryz.f63),(64,Tryz.f64),(65,Tryz.f65),(66,Tryz.f66),(67,Tryz.f67),(68,Tryz.f68),(69,Tryz.f69),(71,Tryz.f71),(72,Tryz.f72),(73,Tryz.f73),(74,Tryz.f74),(75,Tryz.f75),(76,Tryz.f76),(77,Tryz.f77),(78,Tryz.f78),(79,Tryz.f79),(80,Tryz.f80),(81,Tryz.f81),(82,Tryz.f82),(83,Tryz.f83),(84,Tryz.f84),(85,Tryz.f85),(86,Tryz.f86),(87,Tryz.f87),(88,Tryz.f88),(89,Tryz.f89),(90,Tryz.f90),(91,Tryz.f91),(92,Tryz.f92),(93,Tryz.f93),(94,Tryz.f94),(95,Tryz.f95),(96,Tryz.f96),(97,Tryz.f97),(98,Tryz.f98),(99,Tryz.f99),(100,Tryz.f100),(101,Tryz.f101),(102,Tryz.f102),(103,Tryz.f103),(104,Tryz.f104),(105,Tryz.f105),(106,Tryz.f106),(107,Tryz.f107),(108,Tryz.f108),(110,Tryz.f110),(111,Tryz.f111),(112,Tryz.f112),(113,Tryz.f113),(114,Tryz.f114),(115,Tryz.f115),(116,Tryz.f116),(117,Tryz.f117),(118,Tryz.f118),(119,Tryz.f119),(120,Tryz.f120),(121,Tryz.f121),(122,Tryz.f122),(123,Tryz.f123),(124,Tryz.f124),(125,Tryz.f125),(126,Tryz.f126),(127,Tryz.f127),(128,Tryz.f128),(129,Tryz.f129),(130,Tryz.f130),(131,Tryz.f131),(132,Tryz.f132),(133,Tryz.f133),(134,Tryz.f134),(135,Tryz.f135),(136,Tryz.f136),(137,Tryz.f137),(138,Tryz.f138),(139,Tryz.f139),(140,Tryz.f140),(141,Tryz.f141),(142,Tryz.f142),(143,Tryz.f143),(144,Tryz.f144),(145,Tryz.f145),(146,Tryz.f146),(147,Tryz.f147),(148,Tryz.f148),(149,Tryz.f149),(150,Tryz.f150),(151,Tryz.f151),(152,Tryz.f152),(153,Tryz.f153),(154,Tryz.f154),(155,Tryz.f155),(156,Tryz.f156),(157,Tryz.f157),(161,Tryz.f161),(162,Tryz.f162),(163,Tryz.f163),(164,Tryz.f164),(165,Tryz.f165),(167,Tryz.f167),(168,Tryz.f168),(169,Tryz.f169),(170,Tryz.f170),(171,Tryz.f171),(173,Tryz.f173),(174,Tryz.f174),(175,Tryz.f175),(176,Tryz.f176),(178,Tryz.f178),(179,Tryz.f179),(196,Tryz.f196),(197,Tryz.f197),(198,Tryz.f198),(199,Tryz.f199),(100045,Tryz.f45),(100145,Tryz.f45),(100046,Tryz.f46),(100146,Tryz.f46),(100018,Tryz.f18),(100084,Tryz.f84),(101038,Tryz.f38),(102038,Tryz.f38),(100040,Tryz.f40),(100070,Tryz.f70),(100071,Tryz.f70),(100109,Tryz.f109),(100110,Tryz.f109)]
def Zi (x:Int×Int×Unit):List (Int×Int×Unit)→List (Int×Int×Unit)
 | []=>[x]
 |y::r=>bif decide (x.1<y.1) then x::y::r else y::Zi x r
def AL:List (Int×Int×Unit)→List (Int×Int×Unit)
 | []=>[]
 |x::r=>Zi x (AL r)
def okT:List (Int×Int×Unit)→Bool
 | []=>true
 |x::r=>decide (0≤x.1)&&decide (x.1<1000000000)&&(r.all fun y=> !decide (x.1=y.1))&&okT r
def agR (n:Nat)(hp:List (Option (List (Int×Int×Unit)))):Option (Unit×List (Option (List (Int×Int×Unit)))):=match n with
 |0=>some ((),hp)
 |n+1=>(af hp (n+1)).bind fun l=>bif Nat.ble l.length 1000000&&okT l then some ((),gK hp (n+1) (AL l)) else none
def UC (c:Int)(i:Nat):List UInt8→Int
 | []=> -1
 |x::r=>bif ((x.toNat:Int)==c) then (i:Int) else UC c (i+1) r
def B:My T:=fun v=>match v with
 |50=>some fun(x:(Nat×Unit)×List (Option (List (Int×Int×Unit))))=>agR x.1.1 x.2
 |84=>some fun(x:List (Int×Int×Unit))=>bif aB 16 2 0 x.length then some x else none
 |165=>some fun(x:ByteArray×Int)=>bif decide (0≤x.2)&&decide (x.2<256) then some (UC x.2 0 x.1.data.toList) else none
 |_=>none
theorem ak6:iF Tryz.prog T.rows:=akZ (by kernel_rfl)
theorem mixed:Tryz.prog.follows .mixedOrders=true:=by kernel_rfl
theorem aex:DT Tryz.prog T:=agI (by kernel_rfl)
theorem aiO:afJ Tryz.prog T:=ak1 (by kernel_rfl)
theorem agS:SM T:=aiL (l:=sigs) (by kernel_rfl) fun _=>rfl
theorem acW:MH Tryz.prog T:=⟨mixed,ak6,aex,aiO,agS⟩
theorem ak7:acQ Tryz.prog T (Go.Abs.look fns):=Tp (
 ⟨⟨Tryz.func3,by kernel_rfl⟩,⟨⟨Tryz.func4,by kernel_rfl⟩,⟨⟨Tryz.func5,by kernel_rfl⟩,⟨⟨Tryz.func6,by kernel_rfl⟩,⟨⟨Tryz.func7,by kernel_rfl⟩,⟨⟨Tryz.func8,by kernel_rfl⟩,⟨⟨Tryz.func9,by kernel_rfl⟩,⟨⟨Tryz.func10,by kernel_rfl⟩,⟨⟨Tryz.func11,by kernel_rfl⟩,⟨⟨Tryz.func12,by kernel_rfl⟩,⟨⟨Tryz.func13,by kernel_rfl⟩,⟨⟨Tryz.func14,by kernel_rfl⟩,⟨⟨Tryz.func15,by kernel_rfl⟩,⟨⟨Tryz.func16,by kernel_rfl⟩,⟨⟨Tryz.func17,by kernel_rfl⟩,⟨⟨Tryz.func18,by kernel_rfl⟩,⟨⟨Tryz.func19,by kernel_rfl⟩,⟨⟨Tryz.func20,by kernel_rfl⟩,⟨⟨Tryz.func21,by kernel_rfl⟩,⟨⟨Tryz.func22,by kernel_rfl⟩,⟨⟨Tryz.func23,by kernel_rfl⟩,⟨⟨Tryz.func24,by kernel_rfl⟩,⟨⟨Tryz.func25,by kernel_rfl⟩,⟨⟨Tryz.func26,by kernel_rfl⟩,⟨⟨Tryz.func27,by kernel_rfl⟩,⟨⟨Tryz.func28,by kernel_rfl⟩,⟨⟨Tryz.func29,by kernel_rfl⟩,⟨⟨Tryz.func30,by kernel_rfl⟩,⟨⟨Tryz.func31,by kernel_rfl⟩,⟨⟨Tryz.func32,by kernel_rfl⟩,⟨⟨Tryz.func33,by kernel_rfl⟩,⟨⟨Tryz.func34,by kernel_rfl⟩,⟨⟨Tryz.func35,by kernel_rfl⟩,⟨⟨Tryz.func36,by kernel_rfl⟩,⟨⟨Tryz.func37,by kernel_rfl⟩,⟨⟨Tryz.func38,by kernel_rfl⟩,⟨⟨Tryz.func39,by kernel_rfl⟩,⟨⟨Tryz.func40,by kernel_rfl⟩,⟨⟨Tryz.func41,by kernel_rfl⟩,⟨⟨Tryz.func42,by kernel_rfl⟩,⟨⟨Tryz.func43,by kernel_rfl⟩,⟨⟨Tryz.func44,by kernel_rfl⟩,⟨⟨Tryz.func47,by kernel_rfl⟩,⟨⟨Tryz.func48,by kernel_rfl⟩,⟨⟨Tryz.func49,by kernel_rfl⟩,⟨⟨Tryz.func50,by kernel_rfl⟩,⟨⟨Tryz.func51,by kernel_rfl⟩,⟨⟨Tryz.func52,by kernel_rfl⟩,⟨⟨Tryz.func53,by kernel_rfl⟩,⟨⟨Tryz.func54,by kernel_rfl⟩,⟨⟨Tryz.func55,by kernel_rfl⟩,⟨⟨Tryz.func56,by kernel_rfl⟩,⟨⟨Tryz.func57,by kernel_rfl⟩,⟨⟨Tryz.func58,by kernel_rfl⟩,⟨⟨Tryz.func59,by kernel_rfl⟩,⟨⟨Tryz.func60,by kernel_rfl⟩,⟨⟨Tryz.func61,by kernel_rfl⟩,⟨⟨Tryz.func62,by kernel_rfl⟩,⟨⟨Tryz.func63,by kernel_rfl⟩,⟨⟨Tryz.func64,by kernel_rfl⟩,⟨⟨Tryz.func65,by kernel_rfl⟩,⟨⟨Tryz.func66,by kernel_rfl⟩,⟨⟨Tryz.func67,by kernel_rfl⟩,⟨⟨Tryz.func68,by kernel_rfl⟩,⟨⟨Tryz.func69,by kernel_rfl⟩,⟨⟨Tryz.func71,by kernel_rfl⟩,⟨⟨Tryz.func72,by kernel_rfl⟩,⟨⟨Tryz.func73,by kernel_rfl⟩,⟨⟨Tryz.func74,by kernel_rfl⟩,⟨⟨Tryz.func75,by kernel_rfl⟩,⟨⟨Tryz.func76,by kernel_rfl⟩,⟨⟨Tryz.func77,by kernel_rfl⟩,⟨⟨Tryz.func78,by kernel_rfl⟩,⟨⟨Tryz.func79,by kernel_rfl⟩,⟨⟨Tryz.func80,by kernel_rfl⟩,⟨⟨Tryz.func81,by kernel_rfl⟩,⟨⟨Tryz.func82,by kernel_rfl⟩,⟨⟨Tryz.func83,by kernel_rfl⟩,⟨⟨Tryz.func84,by kernel_rfl⟩,⟨⟨Tryz.func85,by kernel_rfl⟩,⟨⟨Tryz.func86,by kernel_rfl⟩,⟨⟨Tryz.func87,by kernel_rfl⟩,⟨⟨Tryz.func88,by kernel_rfl⟩,⟨⟨Tryz.func89,by kernel_rfl⟩,⟨⟨Tryz.func90,by kernel_rfl⟩,⟨⟨Tryz.func91,by kernel_rfl⟩,⟨⟨Tryz.func92,by kernel_rfl⟩,⟨⟨Tryz.func93,by kernel_rfl⟩,⟨⟨Tryz.func94,by kernel_rfl⟩,⟨⟨Tryz.func95,by kernel_rfl⟩,⟨⟨Tryz.func96,by kernel_rfl⟩,⟨⟨Tryz.func97,by kernel_rfl⟩,⟨⟨Tryz.func98,by kernel_rfl⟩,⟨⟨Tryz.func99,by kernel_rfl⟩,⟨⟨Tryz.func100,by kernel_rfl⟩,⟨⟨Tryz.func101,by kernel_rfl⟩,⟨⟨Tryz.func102,by kernel_rfl⟩,⟨⟨Tryz.func103,by kernel_rfl⟩,⟨⟨Tryz.func104,by kernel_rfl⟩,⟨⟨Tryz.func105,by kernel_rfl⟩,⟨⟨Tryz.func106,by kernel_rfl⟩,⟨⟨Tryz.func107,by kernel_rfl⟩,⟨⟨Tryz.func108,by kernel_rfl⟩,⟨⟨Tryz.func110,by kernel_rfl⟩,⟨⟨Tryz.func111,by kernel_rfl⟩,⟨⟨Tryz.func112,by kernel_rfl⟩,⟨⟨Tryz.func113,by kernel_rfl⟩,⟨⟨Tryz.func114,by kernel_rfl⟩,⟨⟨Tryz.func115,by kernel_rfl⟩,⟨⟨Tryz.func116,by kernel_rfl⟩,⟨⟨Tryz.func117,by kernel_rfl⟩,⟨⟨Tryz.func118,by kernel_rfl⟩,⟨⟨Tryz.func119,by kernel_rfl⟩,⟨⟨Tryz.func120,by kernel_rfl⟩,⟨⟨Tryz.func121,by kernel_rfl⟩,⟨⟨Tryz.func122,by kernel_rfl⟩,⟨⟨Tryz.func123,by kernel_rfl⟩,⟨⟨Tryz.func124,by kernel_rfl⟩,⟨⟨Tryz.func125,by kernel_rfl⟩,⟨⟨Tryz.func126,by kernel_rfl⟩,⟨⟨Tryz.func127,by kernel_rfl⟩,⟨⟨Tryz.func128,by kernel_rfl⟩,⟨⟨Tryz.func129,by kernel_rfl⟩,⟨⟨Tryz.func130,by kernel_rfl⟩,⟨⟨Tryz.func131,by kernel_rfl⟩,⟨⟨Tryz.func132,by kernel_rfl⟩,⟨⟨Tryz.func133,by kernel_rfl⟩,⟨⟨Tryz.func134,by kernel_rfl⟩,⟨⟨Tryz.func135,by kernel_rfl⟩,⟨⟨Tryz.func136,by kernel_rfl⟩,⟨⟨Tryz.func137,by kernel_rfl⟩,⟨⟨Tryz.func138,by kernel_rfl⟩,⟨⟨Tryz.func139,by kernel_rfl⟩,⟨⟨Tryz.func140,by kernel_rfl⟩,⟨⟨Tryz.func141,by kernel_rfl⟩,⟨⟨Tryz.func142,by kernel_rfl⟩,⟨⟨Tryz.func143,by kernel_rfl⟩,⟨⟨Tryz.func144,by kernel_rfl⟩,⟨⟨Tryz.func145,by kernel_rfl⟩,⟨⟨Tryz.func146,by kernel_rfl⟩,⟨⟨Tryz.func147,by kernel_rfl⟩,⟨⟨Tryz.func148,by kernel_rfl⟩,⟨⟨Tryz.func149,by kernel_rfl⟩,⟨⟨Tryz.func150,by kernel_rfl⟩,⟨⟨Tryz.func151,by kernel_rfl⟩,⟨⟨Tryz.func152,by kernel_rfl⟩,⟨⟨Tryz.func153,by kernel_rfl⟩,⟨⟨Tryz.func154,by kernel_rfl⟩,⟨⟨Tryz.func155,by kernel_rfl⟩,⟨⟨Tryz.func156,by kernel_rfl⟩,⟨⟨Tryz.func157,by kernel_rfl⟩,⟨⟨Tryz.func161,by kernel_rfl⟩,⟨⟨Tryz.func162,by kernel_rfl⟩,⟨⟨Tryz.func163,by kernel_rfl⟩,⟨⟨Tryz.func164,by kernel_rfl⟩,⟨⟨Tryz.func165,by kernel_rfl⟩,⟨⟨Tryz.func167,by kernel_rfl⟩,⟨⟨Tryz.func168,by kernel_rfl⟩,⟨⟨Tryz.func169,by kernel_rfl⟩,⟨⟨Tryz.func170,by kernel_rfl⟩,⟨⟨Tryz.func171,by kernel_rfl⟩,⟨⟨Tryz.func173,by kernel_rfl⟩,⟨⟨Tryz.func174,by kernel_rfl⟩,⟨⟨Tryz.func175,by kernel_rfl⟩,⟨⟨Tryz.func176,by kernel_rfl⟩,⟨⟨Tryz.func178,by kernel_rfl⟩,⟨⟨Tryz.func179,by kernel_rfl⟩,⟨⟨Tryz.func196,by kernel_rfl⟩,⟨⟨Tryz.func197,by kernel_rfl⟩,⟨⟨Tryz.func198,by kernel_rfl⟩,⟨⟨Tryz.func199,by kernel_rfl⟩,⟨⟨Tryz.func45,by kernel_rfl⟩,⟨⟨Tryz.func45,by kernel_rfl⟩,⟨⟨Tryz.func46,by kernel_rfl⟩,⟨⟨Tryz.func46,by kernel_rfl⟩,⟨⟨Tryz.func18,by kernel_rfl⟩,⟨⟨Tryz.func84,by kernel_rfl⟩,⟨⟨Tryz.func38,by kernel_rfl⟩,⟨⟨Tryz.func38,by kernel_rfl⟩,⟨⟨Tryz.func40,by kernel_rfl⟩,⟨⟨Tryz.func70,by kernel_rfl⟩,⟨⟨Tryz.func70,by kernel_rfl⟩,⟨⟨Tryz.func109,by kernel_rfl⟩,⟨⟨Tryz.func109,by kernel_rfl⟩,trivial⟩⟩⟩⟩⟩⟩⟩⟩⟩⟩⟩⟩⟩⟩⟩⟩⟩⟩⟩⟩⟩⟩⟩⟩⟩⟩⟩⟩⟩⟩⟩⟩⟩⟩⟩⟩⟩⟩⟩⟩⟩⟩⟩⟩⟩⟩⟩⟩⟩⟩⟩⟩⟩⟩⟩⟩⟩⟩⟩⟩⟩⟩⟩⟩⟩⟩⟩⟩⟩⟩⟩⟩⟩⟩⟩⟩⟩⟩⟩⟩⟩⟩⟩⟩⟩⟩⟩⟩⟩⟩⟩⟩⟩⟩⟩⟩⟩⟩⟩⟩⟩⟩⟩⟩⟩⟩⟩⟩⟩⟩⟩⟩⟩⟩⟩⟩⟩⟩⟩⟩⟩⟩⟩⟩⟩⟩⟩⟩⟩⟩⟩⟩⟩⟩⟩⟩⟩⟩⟩⟩⟩⟩⟩⟩⟩⟩⟩⟩⟩⟩⟩⟩⟩⟩⟩⟩⟩⟩⟩⟩⟩⟩⟩⟩⟩⟩⟩⟩⟩⟩⟩⟩⟩⟩⟩⟩⟩⟩⟩⟩⟩⟩⟩⟩)
end Go.Proofs.YtofjebmoebhiiaaGreatDoor.Ev
namespace Go.Proofs.YtofjebmoebhiiaaGreatDoor.Ev
open Go.Abs
noncomputable section
abbrev GI:=Int×Int×Unit
abbrev b6:=List GI
abbrev zqC:=Int×ByteArray×b6×Unit
abbrev ji:=List zqC
abbrev zqN:=Int×ByteArray×Nat×Unit
abbrev hZ:=Int×ji×Unit
noncomputable abbrev lf:Nat→Option Func:=Go.Abs.look fns
abbrev yT:Ty:= .pair (.int .i64) (.pair (.int .i64) .unit)
abbrev yC:Ty:= .pair (.int .i64) (.pair .str (.pair (.slice (.st yT)) .unit))
abbrev yR:Ty:= .pair (.int .i64) (.pair .str (.pair (.ref 2) .unit))
abbrev yH:Ty:= .st (.pair (.int .i64) (.pair (.slice (.st yC)) .unit))
abbrev yG:Ty:= .st (.pair (.int .i64) (.pair (.ref 0) .unit))
abbrev H0:=List (Option (List zqC))
abbrev H1:=List (Option (List zqN))
abbrev H2:=List (Option (List GI))
abbrev H3:=List (Option (List GI))
abbrev H4:=List (Option (List Int))
abbrev H5:=List (Option (List ((hZ)×Nat×Nat×Nat×Int×Int×Unit)))
abbrev H6:=List (Option (List (Option (List Int))))
abbrev H7:=List (Option (List Bool))
abbrev H8:=List (Option (List (Nat×ByteArray×Unit)))
abbrev H9:=List (Option (List hZ))
abbrev hs (a0:H0)(a1:H1)(a2:H2)(a3:H3)(a4:H4)(a5:H5)(a6:H6)(a7:H7)(a8:H8)(a9:H9):List aS:=[⟨42, .st yC,0,true,a0⟩,⟨42, .st yR,0,true,a1⟩,⟨44, .st yT,0,true,a2⟩,⟨58, .st yT,0,true,a3⟩,⟨3, .int .i64,0,true,a4⟩,⟨95, .st (.pair (.st (.pair (.int .i64) (.pair (.slice (.st yC)) .unit))) (.pair (.ref 6) (.pair (.ref 4) (.pair (.ref 7) yT)))),1,true,a5⟩,⟨26, .qj (.int .i64),0,true,a6⟩,⟨4, .bool,0,true,a7⟩,⟨101, .st (.pair (.ref 4) (.pair .str .unit)),0,true,a8⟩,⟨24,yH,0,true,a9⟩]
abbrev h0:List aS:=hs [] [] [] [] [] [] [] [] [] []
abbrev gl:List (Nat×AV):=[(1000000000, .pd [⟨.fn,(197:Nat)⟩,⟨.bool,false⟩]),(1000000001, .pd [⟨.fn,(199:Nat)⟩,⟨.bool,true⟩])]
abbrev au (x:Int):AV:= .rv (.cv ⟨.int .i64,x⟩)
theorem e1 (v:Nat)(x:BQ T v):cn T B lf v x=ak3 T B lf v x:=Hb T B lf v x
theorem l1 (v i:Nat)(σ:AS):LL T B lf v i σ=LL1 T B lf v i σ:=amO T B lf v i σ
abbrev ms (n:Nat)(a:List (Nat×AV))(b:List (Nat×BX))(h:List aS)(s:Nat):AS:=⟨⟨n,a,gl⟩,[],b,h,⟨.unit,()⟩,[],T.sites s⟩
theorem x1 {t0:Type}{r:Type}{f g:t0→r}(h:∀a0,f a0=g a0):g=f:=(funext fun a0=>h a0).symm
theorem x2 {t0:Type}{t1:Type}{r:Type}{f g:t0→t1→r}(h:∀a0 a1,f a0 a1=g a0 a1):g=f:=(funext fun a0=>funext fun a1=>h a0 a1).symm
theorem x3 {t0:Type}{t1:Type}{t2:Type}{r:Type}{f g:t0→t1→t2→r}(h:∀a0 a1 a2,f a0 a1 a2=g a0 a1 a2):g=f:=(funext fun a0=>funext fun a1=>funext fun a2=>h a0 a1 a2).symm
theorem x4 {t0:Type}{t1:Type}{t2:Type}{t3:Type}{r:Type}{f g:t0→t1→t2→t3→r}(h:∀a0 a1 a2 a3,f a0 a1 a2 a3=g a0 a1 a2 a3):g=f:=(funext fun a0=>funext fun a1=>funext fun a2=>funext fun a3=>h a0 a1 a2 a3).symm
theorem x5 {t0:Type}{t1:Type}{t2:Type}{t3:Type}{t4:Type}{r:Type}{f g:t0→t1→t2→t3→t4→r}(h:∀a0 a1 a2 a3 a4,f a0 a1 a2 a3 a4=g a0 a1 a2 a3 a4):g=f:=(funext fun a0=>funext fun a1=>funext fun a2=>funext fun a3=>funext fun a4=>h a0 a1 a2 a3 a4).symm
theorem x6 {t0:Type}{t1:Type}{t2:Type}{t3:Type}{t4:Type}{t5:Type}{r:Type}{f g:t0→t1→t2→t3→t4→t5→r}(h:∀a0 a1 a2 a3 a4 a5,f a0 a1 a2 a3 a4 a5=g a0 a1 a2 a3 a4 a5):g=f:=(funext fun a0=>funext fun a1=>funext fun a2=>funext fun a3=>funext fun a4=>funext fun a5=>h a0 a1 a2 a3 a4 a5).symm
theorem x7 {t0:Type}{t1:Type}{t2:Type}{t3:Type}{t4:Type}{t5:Type}{t6:Type}{r:Type}{f g:t0→t1→t2→t3→t4→t5→t6→r}(h:∀a0 a1 a2 a3 a4 a5 a6,f a0 a1 a2 a3 a4 a5 a6=g a0 a1 a2 a3 a4 a5 a6):g=f:=(funext fun a0=>funext fun a1=>funext fun a2=>funext fun a3=>funext fun a4=>funext fun a5=>funext fun a6=>h a0 a1 a2 a3 a4 a5 a6).symm
theorem x8 {t0:Type}{t1:Type}{t2:Type}{t3:Type}{t4:Type}{t5:Type}{t6:Type}{t7:Type}{r:Type}{f g:t0→t1→t2→t3→t4→t5→t6→t7→r}(h:∀a0 a1 a2 a3 a4 a5 a6 a7,f a0 a1 a2 a3 a4 a5 a6 a7=g a0 a1 a2 a3 a4 a5 a6 a7):g=f:=(funext fun a0=>funext fun a1=>funext fun a2=>funext fun a3=>funext fun a4=>funext fun a5=>funext fun a6=>funext fun a7=>h a0 a1 a2 a3 a4 a5 a6 a7).symm
theorem x9 {t0:Type}{t1:Type}{t2:Type}{t3:Type}{t4:Type}{t5:Type}{t6:Type}{t7:Type}{t8:Type}{r:Type}{f g:t0→t1→t2→t3→t4→t5→t6→t7→t8→r}(h:∀a0 a1 a2 a3 a4 a5 a6 a7 a8,f a0 a1 a2 a3 a4 a5 a6 a7 a8=g a0 a1 a2 a3 a4 a5 a6 a7 a8):g=f:=(funext fun a0=>funext fun a1=>funext fun a2=>funext fun a3=>funext fun a4=>funext fun a5=>funext fun a6=>funext fun a7=>funext fun a8=>h a0 a1 a2 a3 a4 a5 a6 a7 a8).symm
theorem x10 {t0:Type}{t1:Type}{t2:Type}{t3:Type}{t4:Type}{t5:Type}{t6:Type}{t7:Type}{t8:Type}{t9:Type}{r:Type}{f g:t0→t1→t2→t3→t4→t5→t6→t7→t8→t9→r}(h:∀a0 a1 a2 a3 a4 a5 a6 a7 a8 a9,f a0 a1 a2 a3 a4 a5 a6 a7 a8 a9=g a0 a1 a2 a3 a4 a5 a6 a7 a8 a9):g=f:=(funext fun a0=>funext fun a1=>funext fun a2=>funext fun a3=>funext fun a4=>funext fun a5=>funext fun a6=>funext fun a7=>funext fun a8=>funext fun a9=>h a0 a1 a2 a3 a4 a5 a6 a7 a8 a9).symm
theorem x11 {t0:Type}{t1:Type}{t2:Type}{t3:Type}{t4:Type}{t5:Type}{t6:Type}{t7:Type}{t8:Type}{t9:Type}{t10:Type}{r:Type}{f g:t0→t1→t2→t3→t4→t5→t6→t7→t8→t9→t10→r}(h:∀a0 a1 a2 a3 a4 a5 a6 a7 a8 a9 BJ,f a0 a1 a2 a3 a4 a5 a6 a7 a8 a9 BJ=g a0 a1 a2 a3 a4 a5 a6 a7 a8 a9 BJ):g=f:=(funext fun a0=>funext fun a1=>funext fun a2=>funext fun a3=>funext fun a4=>funext fun a5=>funext fun a6=>funext fun a7=>funext fun a8=>funext fun a9=>funext fun BJ=>h a0 a1 a2 a3 a4 a5 a6 a7 a8 a9 BJ).symm
theorem x12 {t0:Type}{t1:Type}{t2:Type}{t3:Type}{t4:Type}{t5:Type}{t6:Type}{t7:Type}{t8:Type}{t9:Type}{t10:Type}{t11:Type}{r:Type}{f g:t0→t1→t2→t3→t4→t5→t6→t7→t8→t9→t10→t11→r}(h:∀a0 a1 a2 a3 a4 a5 a6 a7 a8 a9 BJ D2,f a0 a1 a2 a3 a4 a5 a6 a7 a8 a9 BJ D2=g a0 a1 a2 a3 a4 a5 a6 a7 a8 a9 BJ D2):g=f:=(funext fun a0=>funext fun a1=>funext fun a2=>funext fun a3=>funext fun a4=>funext fun a5=>funext fun a6=>funext fun a7=>funext fun a8=>funext fun a9=>funext fun BJ=>funext fun D2=>h a0 a1 a2 a3 a4 a5 a6 a7 a8 a9 BJ D2).symm
theorem x13 {t0:Type}{t1:Type}{t2:Type}{t3:Type}{t4:Type}{t5:Type}{t6:Type}{t7:Type}{t8:Type}{t9:Type}{t10:Type}{t11:Type}{t12:Type}{r:Type}{f g:t0→t1→t2→t3→t4→t5→t6→t7→t8→t9→t10→t11→t12→r}(h:∀a0 a1 a2 a3 a4 a5 a6 a7 a8 a9 BJ D2 a12,f a0 a1 a2 a3 a4 a5 a6 a7 a8 a9 BJ D2 a12=g a0 a1 a2 a3 a4 a5 a6 a7 a8 a9 BJ D2 a12):g=f:=(funext fun a0=>funext fun a1=>funext fun a2=>funext fun a3=>funext fun a4=>funext fun a5=>funext fun a6=>funext fun a7=>funext fun a8=>funext fun a9=>funext fun BJ=>funext fun D2=>funext fun a12=>h a0 a1 a2 a3 a4 a5 a6 a7 a8 a9 BJ D2 a12).symm
theorem x14 {t0:Type}{t1:Type}{t2:Type}{t3:Type}{t4:Type}{t5:Type}{t6:Type}{t7:Type}{t8:Type}{t9:Type}{t10:Type}{t11:Type}{t12:Type}{t13:Type}{r:Type}{f g:t0→t1→t2→t3→t4→t5→t6→t7→t8→t9→t10→t11→t12→t13→r}(h:∀a0 a1 a2 a3 a4 a5 a6 a7 a8 a9 BJ D2 a12 KI,f a0 a1 a2 a3 a4 a5 a6 a7 a8 a9 BJ D2 a12 KI=g a0 a1 a2 a3 a4 a5 a6 a7 a8 a9 BJ D2 a12 KI):g=f:=(funext fun a0=>funext fun a1=>funext fun a2=>funext fun a3=>funext fun a4=>funext fun a5=>funext fun a6=>funext fun a7=>funext fun a8=>funext fun a9=>funext fun BJ=>funext fun D2=>funext fun a12=>funext fun KI=>h a0 a1 a2 a3 a4 a5 a6 a7 a8 a9 BJ D2 a12 KI).symm
theorem x15 {t0:Type}{t1:Type}{t2:Type}{t3:Type}{t4:Type}{t5:Type}{t6:Type}{t7:Type}{t8:Type}{t9:Type}{t10:Type}{t11:Type}{t12:Type}{t13:Type}{t14:Type}{r:Type}{f g:t0→t1→t2→t3→t4→t5→t6→t7→t8→t9→t10→t11→t12→t13→t14→r}(h:∀a0 a1 a2 a3 a4 a5 a6 a7 a8 a9 BJ D2 a12 KI Of,f a0 a1 a2 a3 a4 a5 a6 a7 a8 a9 BJ D2 a12 KI Of=g a0 a1 a2 a3 a4 a5 a6 a7 a8 a9 BJ D2 a12 KI Of):g=f:=(funext fun a0=>funext fun a1=>funext fun a2=>funext fun a3=>funext fun a4=>funext fun a5=>funext fun a6=>funext fun a7=>funext fun a8=>funext fun a9=>funext fun BJ=>funext fun D2=>funext fun a12=>funext fun KI=>funext fun Of=>h a0 a1 a2 a3 a4 a5 a6 a7 a8 a9 BJ D2 a12 KI Of).symm
theorem x16 {t0:Type}{t1:Type}{t2:Type}{t3:Type}{t4:Type}{t5:Type}{t6:Type}{t7:Type}{t8:Type}{t9:Type}{t10:Type}{t11:Type}{t12:Type}{t13:Type}{t14:Type}{t15:Type}{r:Type}{f g:t0→t1→t2→t3→t4→t5→t6→t7→t8→t9→t10→t11→t12→t13→t14→t15→r}(h:∀a0 a1 a2 a3 a4 a5 a6 a7 a8 a9 BJ D2 a12 KI Of RX,f a0 a1 a2 a3 a4 a5 a6 a7 a8 a9 BJ D2 a12 KI Of RX=g a0 a1 a2 a3 a4 a5 a6 a7 a8 a9 BJ D2 a12 KI Of RX):g=f:=(funext fun a0=>funext fun a1=>funext fun a2=>funext fun a3=>funext fun a4=>funext fun a5=>funext fun a6=>funext fun a7=>funext fun a8=>funext fun a9=>funext fun BJ=>funext fun D2=>funext fun a12=>funext fun KI=>funext fun Of=>funext fun RX=>h a0 a1 a2 a3 a4 a5 a6 a7 a8 a9 BJ D2 a12 KI Of RX).symm
theorem x17 {t0:Type}{t1:Type}{t2:Type}{t3:Type}{t4:Type}{t5:Type}{t6:Type}{t7:Type}{t8:Type}{t9:Type}{t10:Type}{t11:Type}{t12:Type}{t13:Type}{t14:Type}{t15:Type}{t16:Type}{r:Type}{f g:t0→t1→t2→t3→t4→t5→t6→t7→t8→t9→t10→t11→t12→t13→t14→t15→t16→r}(h:∀a0 a1 a2 a3 a4 a5 a6 a7 a8 a9 BJ D2 a12 KI Of RX Xb,f a0 a1 a2 a3 a4 a5 a6 a7 a8 a9 BJ D2 a12 KI Of RX Xb=g a0 a1 a2 a3 a4 a5 a6 a7 a8 a9 BJ D2 a12 KI Of RX Xb):g=f:=(funext fun a0=>funext fun a1=>funext fun a2=>funext fun a3=>funext fun a4=>funext fun a5=>funext fun a6=>funext fun a7=>funext fun a8=>funext fun a9=>funext fun BJ=>funext fun D2=>funext fun a12=>funext fun KI=>funext fun Of=>funext fun RX=>funext fun Xb=>h a0 a1 a2 a3 a4 a5 a6 a7 a8 a9 BJ D2 a12 KI Of RX Xb).symm
theorem x18 {t0:Type}{t1:Type}{t2:Type}{t3:Type}{t4:Type}{t5:Type}{t6:Type}{t7:Type}{t8:Type}{t9:Type}{t10:Type}{t11:Type}{t12:Type}{t13:Type}{t14:Type}{t15:Type}{t16:Type}{t17:Type}{r:Type}{f g:t0→t1→t2→t3→t4→t5→t6→t7→t8→t9→t10→t11→t12→t13→t14→t15→t16→t17→r}(h:∀a0 a1 a2 a3 a4 a5 a6 a7 a8 a9 BJ D2 a12 KI Of RX Xb a17,f a0 a1 a2 a3 a4 a5 a6 a7 a8 a9 BJ D2 a12 KI Of RX Xb a17=g a0 a1 a2 a3 a4 a5 a6 a7 a8 a9 BJ D2 a12 KI Of RX Xb a17):g=f:=(funext fun a0=>funext fun a1=>funext fun a2=>funext fun a3=>funext fun a4=>funext fun a5=>funext fun a6=>funext fun a7=>funext fun a8=>funext fun a9=>funext fun BJ=>funext fun D2=>funext fun a12=>funext fun KI=>funext fun Of=>funext fun RX=>funext fun Xb=>funext fun a17=>h a0 a1 a2 a3 a4 a5 a6 a7 a8 a9 BJ D2 a12 KI Of RX Xb a17).symm
theorem x19 {t0:Type}{t1:Type}{t2:Type}{t3:Type}{t4:Type}{t5:Type}{t6:Type}{t7:Type}{t8:Type}{t9:Type}{t10:Type}{t11:Type}{t12:Type}{t13:Type}{t14:Type}{t15:Type}{t16:Type}{t17:Type}{t18:Type}{r:Type}{f g:t0→t1→t2→t3→t4→t5→t6→t7→t8→t9→t10→t11→t12→t13→t14→t15→t16→t17→t18→r}(h:∀a0 a1 a2 a3 a4 a5 a6 a7 a8 a9 BJ D2 a12 KI Of RX Xb a17 a18,f a0 a1 a2 a3 a4 a5 a6 a7 a8 a9 BJ D2 a12 KI Of RX Xb a17 a18=g a0 a1 a2 a3 a4 a5 a6 a7 a8 a9 BJ D2 a12 KI Of RX Xb a17 a18):g=f:=(funext fun a0=>funext fun a1=>funext fun a2=>funext fun a3=>funext fun a4=>funext fun a5=>funext fun a6=>funext fun a7=>funext fun a8=>funext fun a9=>funext fun BJ=>funext fun D2=>funext fun a12=>funext fun KI=>funext fun Of=>funext fun RX=>funext fun Xb=>funext fun a17=>funext fun a18=>h a0 a1 a2 a3 a4 a5 a6 a7 a8 a9 BJ D2 a12 KI Of RX Xb a17 a18).symm
theorem x20 {t0:Type}{t1:Type}{t2:Type}{t3:Type}{t4:Type}{t5:Type}{t6:Type}{t7:Type}{t8:Type}{t9:Type}{t10:Type}{t11:Type}{t12:Type}{t13:Type}{t14:Type}{t15:Type}{t16:Type}{t17:Type}{t18:Type}{t19:Type}{r:Type}{f g:t0→t1→t2→t3→t4→t5→t6→t7→t8→t9→t10→t11→t12→t13→t14→t15→t16→t17→t18→t19→r}(h:∀a0 a1 a2 a3 a4 a5 a6 a7 a8 a9 BJ D2 a12 KI Of RX Xb a17 a18 a19,f a0 a1 a2 a3 a4 a5 a6 a7 a8 a9 BJ D2 a12 KI Of RX Xb a17 a18 a19=g a0 a1 a2 a3 a4 a5 a6 a7 a8 a9 BJ D2 a12 KI Of RX Xb a17 a18 a19):g=f:=(funext fun a0=>funext fun a1=>funext fun a2=>funext fun a3=>funext fun a4=>funext fun a5=>funext fun a6=>funext fun a7=>funext fun a8=>funext fun a9=>funext fun BJ=>funext fun D2=>funext fun a12=>funext fun KI=>funext fun Of=>funext fun RX=>funext fun Xb=>funext fun a17=>funext fun a18=>funext fun a19=>h a0 a1 a2 a3 a4 a5 a6 a7 a8 a9 BJ D2 a12 KI Of RX Xb a17 a18 a19).symm
abbrev ae {α:Type}(_:α):Type:=α
def iu {α:Type}(f:α)(b:Nat→α)(n:Nat):α:=Nat.rec f (fun k _=>b k) n
def xw {α:Type}(f:α)(b:Nat→α→α)(n:Nat):α:=Nat.rec f (fun k x=>b k x) n
theorem bl {α:Type}{f:α}{b:Nat→α}(h:∀w,b w=f):∀w,iu f b w=f
 |0=>rfl
 |w+1=>h w
theorem mkLe {α:Type}{f:α}{b:Nat→α→α}(h:∀w,b w f=f):∀w,xw f b w=f
 |0=>rfl
 |w+1=>by
  show b w (xw f b w)=f
  rw[mkLe h w]
  exact h w
def ju (c:hZ)(raw:(List (List Int))×(List Int)×Int×(List Int)×Unit):Option (Bool):=cn T B lf 3 (c,raw)
def ia (t:Nat)(t2:Int)(t3:Int)(ma:H9):Option (Bool):=
 LL T B lf 3 0 (ms 88 [(23,au t3),(22,au t2),(21, .rv (.cv ⟨.ref 9,t⟩))] [] (hs [] [] [] [] [] [] [] [] [] ma) 3)
def aZ (e:Int)(round:Int)(t:Nat)(t2:Int)(t3:Int)(t4:Int)(t5:Int)(x:Int)(x2:ji)(was:Int)(jv:Nat)(want:Int)(dh:ji)(d:Int)(d2:Nat)(br:H0)(hp1:H1)(hp2:H2)(ma:H9):Option (Bool):=
 LL T B lf 3 2 (ms 88 [(62,au t5),(61,au t4),(23,au t3),(22,au t2),(21, .rv (.cv ⟨.ref 9,t⟩)),(11, .box 11 0),(10,au round),(9, .box 9 0),(8,au e),(7, .box 7 0),(6, .box 6 0)] [(6, .cells [⟨.int .i64,x⟩,⟨.slice (.st yC),x2⟩]),(7, .cells [⟨.int .i64,was⟩,⟨.ref 0,jv⟩]),(9, .cells [⟨.int .i64,want⟩,⟨.slice (.st yC),dh⟩]),(11, .cells [⟨.int .i64,d⟩,⟨.ref 1,d2⟩])] (hs br hp1 hp2 [] [] [] [] [] [] ma) 3)
def gN (e:Int)(round:Int)(t:Nat)(t2:Int)(t3:Int)(t4:Int)(t5:Int)(x:Int)(x2:ji)(was:Int)(jv:Nat)(want:Int)(dh:Nat)(d:Int)(d2:Nat)(br:H0)(hp1:H1)(hp2:H2)(ma:H9):Option (Bool):=
 LL T B lf 3 2 (ms 88 [(62,au t5),(61,au t4),(23,au t3),(22,au t2),(21, .rv (.cv ⟨.ref 9,t⟩)),(11, .box 11 0),(10,au round),(9, .box 9 0),(8,au e),(7, .box 7 0),(6, .box 6 0)] [(6, .cells [⟨.int .i64,x⟩,⟨.slice (.st yC),x2⟩]),(7, .cells [⟨.int .i64,was⟩,⟨.ref 0,jv⟩]),(9, .cells [⟨.int .i64,want⟩,⟨.ref 0,dh⟩]),(11, .cells [⟨.int .i64,d⟩,⟨.ref 1,d2⟩])] (hs br hp1 hp2 [] [] [] [] [] [] ma) 3)
def bH (e:Int)(round:Int)(i:Int)(t:Nat)(t2:Int)(t3:Int)(t4:Int)(t5:Int)(t6:Int)(t7:Int)(x:Int)(x2:ji)(was:Int)(jv:Nat)(want:Int)(dh:ji)(d:Int)(d2:Nat)(br:H0)(hp1:H1)(hp2:H2)(ma:H9):Option (Bool):=
 LL T B lf 3 3 (ms 88 [(72,au t7),(71,au t6),(62,au t5),(61,au t4),(23,au t3),(22,au t2),(21, .rv (.cv ⟨.ref 9,t⟩)),(13,au i),(11, .box 11 0),(10,au round),(9, .box 9 0),(8,au e),(7, .box 7 0),(6, .box 6 0)] [(6, .cells [⟨.int .i64,x⟩,⟨.slice (.st yC),x2⟩]),(7, .cells [⟨.int .i64,was⟩,⟨.ref 0,jv⟩]),(9, .cells [⟨.int .i64,want⟩,⟨.slice (.st yC),dh⟩]),(11, .cells [⟨.int .i64,d⟩,⟨.ref 1,d2⟩])] (hs br hp1 hp2 [] [] [] [] [] [] ma) 3)
def aF (e:Int)(round:Int)(t:Nat)(t2:Int)(t3:Int)(x:Int)(x2:ji)(was:Int)(jv:Nat)(want:Int)(dh:ji)(br:H0)(hp1:H1)(hp2:H2)(ma:H9):Option (Bool):=
 LL T B lf 3 1 (ms 88 [(23,au t3),(22,au t2),(21, .rv (.cv ⟨.ref 9,t⟩)),(10,au round),(9, .box 9 0),(8,au e),(7, .box 7 0),(6, .box 6 0)] [(6, .cells [⟨.int .i64,x⟩,⟨.slice (.st yC),x2⟩]),(7, .cells [⟨.int .i64,was⟩,⟨.ref 0,jv⟩]),(9, .cells [⟨.int .i64,want⟩,⟨.slice (.st yC),dh⟩])] (hs br hp1 hp2 [] [] [] [] [] [] ma) 3)
def mC (e:Int)(round:Int)(i:Int)(t:Nat)(t2:Int)(t3:Int)(t4:Int)(t5:Int)(t6:Int)(t7:Int)(x:Int)(x2:ji)(was:Int)(jv:Nat)(want:Int)(dh:Nat)(d:Int)(d2:Nat)(br:H0)(hp1:H1)(hp2:H2)(ma:H9):Option (Bool):=
 LL T B lf 3 3 (ms 88 [(72,au t7),(71,au t6),(62,au t5),(61,au t4),(23,au t3),(22,au t2),(21, .rv (.cv ⟨.ref 9,t⟩)),(13,au i),(11, .box 11 0),(10,au round),(9, .box 9 0),(8,au e),(7, .box 7 0),(6, .box 6 0)] [(6, .cells [⟨.int .i64,x⟩,⟨.slice (.st yC),x2⟩]),(7, .cells [⟨.int .i64,was⟩,⟨.ref 0,jv⟩]),(9, .cells [⟨.int .i64,want⟩,⟨.ref 0,dh⟩]),(11, .cells [⟨.int .i64,d⟩,⟨.ref 1,d2⟩])] (hs br hp1 hp2 [] [] [] [] [] [] ma) 3)
def aT (e:Int)(round:Int)(t:Nat)(t2:Int)(t3:Int)(x:Int)(x2:ji)(was:Int)(jv:Nat)(want:Int)(dh:Nat)(br:H0)(hp1:H1)(hp2:H2)(ma:H9):Option (Bool):=
 LL T B lf 3 1 (ms 88 [(23,au t3),(22,au t2),(21, .rv (.cv ⟨.ref 9,t⟩)),(10,au round),(9, .box 9 0),(8,au e),(7, .box 7 0),(6, .box 6 0)] [(6, .cells [⟨.int .i64,x⟩,⟨.slice (.st yC),x2⟩]),(7, .cells [⟨.int .i64,was⟩,⟨.ref 0,jv⟩]),(9, .cells [⟨.int .i64,want⟩,⟨.ref 0,dh⟩])] (hs br hp1 hp2 [] [] [] [] [] [] ma) 3)
def aG (t:Nat)(t2:Int)(t3:Int)(br:H0)(hp1:H1)(hp2:H2)(ma:H9):Option (Bool):=
 LL T B lf 3 0 (ms 88 [(23,au t3),(22,au t2),(21, .rv (.cv ⟨.ref 9,t⟩))] [] (hs br hp1 hp2 [] [] [] [] [] [] ma) 3)
def tG (c:hZ)(most:Int):Option (Bool):=cn T B lf 12 (c,most)
def ib (t:ji)(t2:Int)(t3:Int):Option (Bool):=
 LL T B lf 12 0 (ms 30 [(15,au t3),(14,au t2),(13, .rv (.cv ⟨.slice (.st yC),t⟩))] [] h0 12)
def ft:Option (Bool):=cn T B lf 13 ()
def rG (x:(List (List Int))×(List Int)×Int×(List Int)×Unit)(most:Int):Option hZ:=cn T B lf 14 (x,most)
def di (n:Int)(x:List (List Int))(x2:List Int)(x3:Int)(x4:List Int)(t:Int)(t2:Nat)(c:Int)(c2:ji):Option hZ:=
 LL T B lf 14 0 (ms 134 [(9,au n),(7, .box 7 0),(4, .box 4 0),(2, .box 2 0)] [(2, .cells [⟨.slice (.slice (.int .i64)),x⟩,⟨.slice (.int .i64),x2⟩,⟨.int .i64,x3⟩,⟨.slice (.int .i64),x4⟩]),(4, .cells [⟨.int .i64,t⟩,⟨.ref 0,t2⟩]),(7, .cells [⟨.int .i64,c⟩,⟨.slice (.st yC),c2⟩])] h0 14)
def gj (n:Int)(j:Int)(k:Int)(i:Int)(x:List (List Int))(x2:List Int)(x3:Int)(x4:List Int)(t:Int)(t2:Nat)(c:Int)(c2:ji):Option hZ:=
 LL T B lf 14 1 (ms 134 [(12,au i),(11,au k),(10,au j),(9,au n),(7, .box 7 0),(4, .box 4 0),(2, .box 2 0)] [(2, .cells [⟨.slice (.slice (.int .i64)),x⟩,⟨.slice (.int .i64),x2⟩,⟨.int .i64,x3⟩,⟨.slice (.int .i64),x4⟩]),(4, .cells [⟨.int .i64,t⟩,⟨.ref 0,t2⟩]),(7, .cells [⟨.int .i64,c⟩,⟨.slice (.st yC),c2⟩])] h0 14)
def fT (c:hZ)(br:H0):Option ((Int×Nat×Unit)×H0):=cn T B lf 15 (c,br)
def dI (i:Int)(c:Int)(c2:ji)(t:Int)(t2:Nat)(out:Int)(ag:Nat)(br:H0):Option ((Int×Nat×Unit)×H0):=
 LL T B lf 15 0 (ms 33 [(4,au i),(3, .box 3 0),(2, .box 2 0),(1, .box 1 0)] [(1, .cells [⟨.int .i64,c⟩,⟨.slice (.st yC),c2⟩]),(2, .cells [⟨.int .i64,t⟩,⟨.ref 0,t2⟩]),(3, .cells [⟨.int .i64,out⟩,⟨.ref 0,ag⟩])] (hs br [] [] [] [] [] [] [] [] []) 15)
def rH (c:hZ):Option (Int):=cn T B lf 16 c
def gm (j:Int)(c:Int)(c2:ji):Option (Int):=
 LL T B lf 16 0 (ms 26 [(3,au j),(1, .box 1 0)] [(1, .cells [⟨.int .i64,c⟩,⟨.slice (.st yC),c2⟩])] h0 16)
def tH (c:hZ):Option hZ:=cn T B lf 17 c
def tU (n:Int)(j:Int)(c:Int)(c2:ji)(t:Int)(t2:Nat)(out:Int)(ag:Nat):Option hZ:=
 LL T B lf 17 0 (ms 70 [(5,au j),(4, .box 4 0),(3,au n),(2, .box 2 0),(1, .box 1 0)] [(1, .cells [⟨.int .i64,c⟩,⟨.slice (.st yC),c2⟩]),(2, .cells [⟨.int .i64,t⟩,⟨.ref 0,t2⟩]),(4, .cells [⟨.int .i64,out⟩,⟨.ref 0,ag⟩])] h0 17)
def jl (n:Int)(j:Int)(c:Int)(c2:ji)(t:Int)(t2:Nat)(out:Int)(ag:Nat)(br:H0)(aD:H4):Option hZ:=
 LL T B lf 17 0 (ms 70 [(5,au j),(4, .box 4 0),(3,au n),(2, .box 2 0),(1, .box 1 0)] [(1, .cells [⟨.int .i64,c⟩,⟨.slice (.st yC),c2⟩]),(2, .cells [⟨.int .i64,t⟩,⟨.ref 0,t2⟩]),(4, .cells [⟨.int .i64,out⟩,⟨.ref 0,ag⟩])] (hs br [] [] [] aD [] [] [] [] []) 17)
def eC (n:Int)(j:Int)(v:Nat)(i:Int)(c:Int)(c2:ji)(t:Int)(t2:Nat)(out:Int)(ag:Nat)(x:Int)(x2:ByteArray)(x3:b6)(br:H0)(aD:H4):Option hZ:=
 LL T B lf 17 1 (ms 70 [(8,au i),(7, .rv (.cv ⟨.ref 4,v⟩)),(6, .box 6 0),(5,au j),(4, .box 4 0),(3,au n),(2, .box 2 0),(1, .box 1 0)] [(1, .cells [⟨.int .i64,c⟩,⟨.slice (.st yC),c2⟩]),(2, .cells [⟨.int .i64,t⟩,⟨.ref 0,t2⟩]),(4, .cells [⟨.int .i64,out⟩,⟨.ref 0,ag⟩]),(6, .cells [⟨.int .i64,x⟩,⟨.str,x2⟩,⟨.slice (.st yT),x3⟩])] (hs br [] [] [] aD [] [] [] [] []) 17)
def tV (c:hZ):Option (hZ×Int):=cn T B lf 18 c
def mc (last:Int)(t:Int)(t2:Int)(c:Int)(c2:ji)(t3:Int)(t4:Nat)(out:Int)(ag:Nat)(hp1:H1):Option (hZ×Int):=
 LL T B lf 18 0 (ms 107 [(35,au t2),(34,au t),(6, .box 6 0),(5,au last),(2, .box 2 0),(1, .box 1 0)] [(1, .cells [⟨.int .i64,c⟩,⟨.slice (.st yC),c2⟩]),(2, .cells [⟨.int .i64,t3⟩,⟨.ref 0,t4⟩]),(6, .cells [⟨.int .i64,out⟩,⟨.ref 1,ag⟩])] (hs [] hp1 [] [] [] [] [] [] [] []) 18)
def me (last:Int)(k:Int)(c:Int)(c2:ji)(t:Int)(t2:Nat)(out:Int)(ag:Nat)(hp1:H1):Option (hZ×Int):=
 LL T B lf 18 1 (ms 107 [(11,au k),(6, .box 6 0),(5,au last),(2, .box 2 0),(1, .box 1 0)] [(1, .cells [⟨.int .i64,c⟩,⟨.slice (.st yC),c2⟩]),(2, .cells [⟨.int .i64,t⟩,⟨.ref 0,t2⟩]),(6, .cells [⟨.int .i64,out⟩,⟨.ref 1,ag⟩])] (hs [] hp1 [] [] [] [] [] [] [] []) 18)
def s0 (last:Int)(k:Int)(t:b6)(t2:Int)(t3:Int)(c:Int)(c2:ji)(t4:Int)(t5:Nat)(out:Int)(ag:Nat)(hp1:H1):Option (hZ×Int):=
 LL T B lf 18 2 (ms 107 [(80,au t3),(79,au t2),(78, .rv (.cv ⟨.slice (.st yT),t⟩)),(11,au k),(6, .box 6 0),(5,au last),(2, .box 2 0),(1, .box 1 0)] [(1, .cells [⟨.int .i64,c⟩,⟨.slice (.st yC),c2⟩]),(2, .cells [⟨.int .i64,t4⟩,⟨.ref 0,t5⟩]),(6, .cells [⟨.int .i64,out⟩,⟨.ref 1,ag⟩])] (hs [] hp1 [] [] [] [] [] [] [] []) 18)
def fU (last:Int)(k:Int)(t:b6)(t2:Int)(t3:Int)(c:Int)(c2:ji)(t4:Int)(t5:Nat)(out:Int)(ag:Nat)(hp1:H1)(hp2:H2):Option (hZ×Int):=
 LL T B lf 18 2 (ms 107 [(80,au t3),(79,au t2),(78, .rv (.cv ⟨.slice (.st yT),t⟩)),(11,au k),(6, .box 6 0),(5,au last),(2, .box 2 0),(1, .box 1 0)] [(1, .cells [⟨.int .i64,c⟩,⟨.slice (.st yC),c2⟩]),(2, .cells [⟨.int .i64,t4⟩,⟨.ref 0,t5⟩]),(6, .cells [⟨.int .i64,out⟩,⟨.ref 1,ag⟩])] (hs [] hp1 hp2 [] [] [] [] [] [] []) 18)
def qJ (last:Int)(k:Int)(c:Int)(c2:ji)(t:Int)(t2:Nat)(out:Int)(ag:Nat)(hp1:H1)(hp2:H2):Option (hZ×Int):=
 LL T B lf 18 1 (ms 107 [(11,au k),(6, .box 6 0),(5,au last),(2, .box 2 0),(1, .box 1 0)] [(1, .cells [⟨.int .i64,c⟩,⟨.slice (.st yC),c2⟩]),(2, .cells [⟨.int .i64,t⟩,⟨.ref 0,t2⟩]),(6, .cells [⟨.int .i64,out⟩,⟨.ref 1,ag⟩])] (hs [] hp1 hp2 [] [] [] [] [] [] []) 18)
def lA (a:hZ)(b:hZ):Option (Bool):=cn T B lf 19 (a,b)
def ic (i:Int)(a:Int)(a2:ji)(b:Int)(b2:ji):Option (Bool):=
 LL T B lf 19 0 (ms 71 [(5,au i),(3, .box 3 0),(2, .box 2 0)] [(2, .cells [⟨.int .i64,a⟩,⟨.slice (.st yC),a2⟩]),(3, .cells [⟨.int .i64,b⟩,⟨.slice (.st yC),b2⟩])] h0 19)
def qK (c:hZ):Option (b6×GI×Int):=cn T B lf 20 c
def iI (a:b6)(b:b6):Option (Bool):=cn T B lf 23 (a,b)
def cH (a:b6)(b:b6)(i:Int):Option (Bool):=
 LL T B lf 23 0 (ms 26 [(5,au i),(1, .rv (.cv ⟨.slice (.st yT),b⟩)),(0, .rv (.cv ⟨.slice (.st yT),a⟩))] [] h0 23)
def zp (c:hZ):Option (b6×GI×Int):=cn T B lf 24 c
def mV (c:hZ):Option (b6×GI×Int):=cn T B lf 26 c
def eD (l:Nat)(last:Int)(t:Nat)(t2:Int)(t3:Int)(t4:Int)(t5:Int)(w:Int)(w2:Int)(eK:H2):Option (b6×GI×Int):=
 LL T B lf 26 0 (ms 66 [(33,au t3),(32,au t2),(31, .rv (.cv ⟨.ref 3,t⟩)),(9,au last),(8, .box 8 0),(7, .rv (.cv ⟨.ref 3,l⟩)),(3, .box 3 0)] [(3, .cells [⟨.int .i64,t4⟩,⟨.int .i64,t5⟩]),(8, .cells [⟨.int .i64,w⟩,⟨.int .i64,w2⟩])] (hs [] [] [] eK [] [] [] [] [] []) 26)
def kh:Option hZ:=cn T B lf 28 ()
def cq (a:b6)(b:b6):Option (Bool):=cn T B lf 30 (a,b)
def bC (a:b6)(b:b6)(i:Int):Option (Bool):=
 LL T B lf 30 0 (ms 26 [(5,au i),(1, .rv (.cv ⟨.slice (.st yT),b⟩)),(0, .rv (.cv ⟨.slice (.st yT),a⟩))] [] h0 30)
def vQ (l:List Int):Option b6:=cn T B lf 31 l
def jd (l:List Int)(i:Int)(out:b6):Option b6:=
 LL T B lf 31 0 ⟨⟨26,[(4,au i),(3, .rv (.own 3)),(0, .rv (.cv ⟨.slice (.int .i64),l⟩))],gl⟩,[(3,⟨44, .st yT,out⟩)],[],h0,⟨.unit,()⟩,[],T.sites 31⟩
def rI (l:List (List Int))(values:List Int)(most:Int)(RY:Int)(n:Int):Option (List ((List Int)×ByteArray×Unit)):=cn T B lf 32 (l,values,most,RY,n)
def gp (values:List Int)(c:List (List Int))(i:Int)(V2:List ByteArray):Option (List ((List Int)×ByteArray×Unit)):=
 LL T B lf 32 0 ⟨⟨57,[(13,au i),(12, .rv (.own 12)),(11, .rv (.cv ⟨.slice (.slice (.int .i64)),c⟩)),(1, .rv (.cv ⟨.slice (.int .i64),values⟩))],gl⟩,[(12,⟨39, .str,V2⟩)],[],h0,⟨.unit,()⟩,[],T.sites 32⟩
def jK (f:List ((List Int)×ByteArray×Unit))(p:Int):Option (hZ×Int):=cn T B lf 33 (f,p)
def mW (f:List ((List Int)×ByteArray×Unit))(p:Int)(j:Int)(t:Int)(t2:Nat)(out:Int)(ag:Nat):Option (hZ×Int):=
 LL T B lf 33 0 (ms 93 [(8,au j),(7, .box 7 0),(4, .box 4 0),(1,au p),(0, .rv (.cv ⟨.slice (.st (.pair (.slice (.int .i64)) (.pair (.str) (.unit)))),f⟩))] [(4, .cells [⟨.int .i64,t⟩,⟨.ref 0,t2⟩]),(7, .cells [⟨.int .i64,out⟩,⟨.ref 0,ag⟩])] h0 33)
def fu (f:List ((List Int)×ByteArray×Unit))(p:Int)(j:Int)(v:Nat)(aQ:List (List Int))(k:Int)(t:Int)(t2:Nat)(out:Int)(ag:Nat)(aD:H4):Option (hZ×Int):=
 LL T B lf 33 1 (ms 93 [(11,au k),(10, .rv (.cv ⟨.slice (.slice (.int .i64)),aQ⟩)),(9, .rv (.cv ⟨.ref 4,v⟩)),(8,au j),(7, .box 7 0),(4, .box 4 0),(1,au p),(0, .rv (.cv ⟨.slice (.st (.pair (.slice (.int .i64)) (.pair (.str) (.unit)))),f⟩))] [(4, .cells [⟨.int .i64,t⟩,⟨.ref 0,t2⟩]),(7, .cells [⟨.int .i64,out⟩,⟨.ref 0,ag⟩])] (hs [] [] [] [] aD [] [] [] [] []) 33)
def ie (f:List ((List Int)×ByteArray×Unit))(p:Int)(j:Int)(v:Nat)(aQ:List (List Int))(k:Int)(i:Int)(t:Int)(t2:Nat)(out:Int)(ag:Nat)(aD:H4):Option (hZ×Int):=
 LL T B lf 33 2 (ms 93 [(12,au i),(11,au k),(10, .rv (.cv ⟨.slice (.slice (.int .i64)),aQ⟩)),(9, .rv (.cv ⟨.ref 4,v⟩)),(8,au j),(7, .box 7 0),(4, .box 4 0),(1,au p),(0, .rv (.cv ⟨.slice (.st (.pair (.slice (.int .i64)) (.pair (.str) (.unit)))),f⟩))] [(4, .cells [⟨.int .i64,t⟩,⟨.ref 0,t2⟩]),(7, .cells [⟨.int .i64,out⟩,⟨.ref 0,ag⟩])] (hs [] [] [] [] aD [] [] [] [] []) 33)
def cN (f:List ((List Int)×ByteArray×Unit))(p:Int)(j:Int)(t:Int)(t2:Nat)(out:Int)(ag:Nat)(br:H0)(aD:H4):Option (hZ×Int):=
 LL T B lf 33 0 (ms 93 [(8,au j),(7, .box 7 0),(4, .box 4 0),(1,au p),(0, .rv (.cv ⟨.slice (.st (.pair (.slice (.int .i64)) (.pair (.str) (.unit)))),f⟩))] [(4, .cells [⟨.int .i64,t⟩,⟨.ref 0,t2⟩]),(7, .cells [⟨.int .i64,out⟩,⟨.ref 0,ag⟩])] (hs br [] [] [] aD [] [] [] [] []) 33)
def dC (f:List ((List Int)×ByteArray×Unit))(p:Int)(j:Int)(v:Nat)(aQ:List (List Int))(k:Int)(t:Int)(t2:Nat)(out:Int)(ag:Nat)(br:H0)(aD:H4):Option (hZ×Int):=
 LL T B lf 33 1 (ms 93 [(11,au k),(10, .rv (.cv ⟨.slice (.slice (.int .i64)),aQ⟩)),(9, .rv (.cv ⟨.ref 4,v⟩)),(8,au j),(7, .box 7 0),(4, .box 4 0),(1,au p),(0, .rv (.cv ⟨.slice (.st (.pair (.slice (.int .i64)) (.pair (.str) (.unit)))),f⟩))] [(4, .cells [⟨.int .i64,t⟩,⟨.ref 0,t2⟩]),(7, .cells [⟨.int .i64,out⟩,⟨.ref 0,ag⟩])] (hs br [] [] [] aD [] [] [] [] []) 33)
def eL (f:List ((List Int)×ByteArray×Unit))(p:Int)(j:Int)(v:Nat)(aQ:List (List Int))(k:Int)(i:Int)(t:Int)(t2:Nat)(out:Int)(ag:Nat)(br:H0)(aD:H4):Option (hZ×Int):=
 LL T B lf 33 2 (ms 93 [(12,au i),(11,au k),(10, .rv (.cv ⟨.slice (.slice (.int .i64)),aQ⟩)),(9, .rv (.cv ⟨.ref 4,v⟩)),(8,au j),(7, .box 7 0),(4, .box 4 0),(1,au p),(0, .rv (.cv ⟨.slice (.st (.pair (.slice (.int .i64)) (.pair (.str) (.unit)))),f⟩))] [(4, .cells [⟨.int .i64,t⟩,⟨.ref 0,t2⟩]),(7, .cells [⟨.int .i64,out⟩,⟨.ref 0,ag⟩])] (hs br [] [] [] aD [] [] [] [] []) 33)
def rJ (n:Int):Option (Int):=cn T B lf 34 n
def tI (c:hZ)(i:Int)(j:Int)(k:Int)(m:Int):Option hZ:=cn T B lf 35 (c,i,j,k,m)
def ig (i:Int)(j:Int)(k:Int)(m:Int)(inv:Int)(v:Nat)(a:List Int)(b:List Int)(n:Int)(c:Int)(c2:ji)(t:Int)(t2:Nat)(out:Int)(ag:Nat)(br:H0)(aD:H4):Option hZ:=
 LL T B lf 35 0 (ms 149 [(16,au n),(15, .rv (.cv ⟨.slice (.int .i64),b⟩)),(14, .rv (.cv ⟨.slice (.int .i64),a⟩)),(13, .rv (.cv ⟨.ref 4,v⟩)),(12,au inv),(11, .box 11 0),(10, .box 10 0),(5, .box 5 0),(4,au m),(3,au k),(2,au j),(1,au i)] [(5, .cells [⟨.int .i64,c⟩,⟨.slice (.st yC),c2⟩]),(10, .cells [⟨.int .i64,t⟩,⟨.ref 0,t2⟩]),(11, .cells [⟨.int .i64,out⟩,⟨.ref 0,ag⟩])] (hs br [] [] [] aD [] [] [] [] []) 35)
def ij (i:Int)(j:Int)(m:Int)(inv:Int)(n:Int)(c:Int)(c2:ji)(t:Int)(t2:Nat)(out:Int)(ag:Nat)(br:H0)(aD:H4):Option hZ:=
 LL T B lf 35 1 (ms 149 [(17,au n),(12,au inv),(11, .box 11 0),(10, .box 10 0),(5, .box 5 0),(4,au m),(2,au j),(1,au i)] [(5, .cells [⟨.int .i64,c⟩,⟨.slice (.st yC),c2⟩]),(10, .cells [⟨.int .i64,t⟩,⟨.ref 0,t2⟩]),(11, .cells [⟨.int .i64,out⟩,⟨.ref 0,ag⟩])] (hs br [] [] [] aD [] [] [] [] []) 35)
def ef (p:Int):Option (Bool):=cn T B lf 36 p
def eE (p:Int)(k:Int):Option (Bool):=
 LL T B lf 36 0 (ms 23 [(3,au k),(0,au p)] [] h0 36)
def qo (c:hZ)(j:Int):Option (Int):=cn T B lf 37 (c,j)
def fw (j:Int)(i:Int)(c:Int)(c2:ji)(x:Int)(x2:ByteArray)(x3:b6):Option (Int):=
 LL T B lf 37 0 (ms 95 [(7,au i),(5, .box 5 0),(2, .box 2 0),(1,au j)] [(2, .cells [⟨.int .i64,c⟩,⟨.slice (.st yC),c2⟩]),(5, .cells [⟨.int .i64,x⟩,⟨.str,x2⟩,⟨.slice (.st yT),x3⟩])] h0 37)
def ch (j:Int)(i:Int)(c:Int)(c2:ji)(x:Int)(x2:ByteArray)(x3:b6):Option (Int):=
 LL T B lf 37 1 (ms 95 [(8,au i),(5, .box 5 0),(2, .box 2 0),(1,au j)] [(2, .cells [⟨.int .i64,c⟩,⟨.slice (.st yC),c2⟩]),(5, .cells [⟨.int .i64,x⟩,⟨.str,x2⟩,⟨.slice (.st yT),x3⟩])] h0 37)
def jW (x:b6)(n:Int):Option (List Int):=cn T B lf 38 (x,n)
def gq (x:b6)(i:Int)(out:List Int):Option (List Int):=
 LL T B lf 38 0 ⟨⟨28,[(6,au i),(5, .rv (.own 5)),(0, .rv (.cv ⟨.slice (.st yT),x⟩))],gl⟩,[(5,⟨3, .int .i64,out⟩)],[],h0,⟨.unit,()⟩,[],T.sites 38⟩
def jm (a:ByteArray):Option (ByteArray):=cn T B lf 39 a
def qp (v:List Int):Option b6:=cn T B lf 40 v
def fx (v:List Int)(i:Int)(out:b6):Option b6:=
 LL T B lf 40 0 ⟨⟨26,[(4,au i),(3, .rv (.own 3)),(0, .rv (.cv ⟨.slice (.int .i64),v⟩))],gl⟩,[(3,⟨44, .st yT,out⟩)],[],h0,⟨.unit,()⟩,[],T.sites 40⟩
def gF (c:hZ):Option (Int):=cn T B lf 41 c
def dJ (t:ji)(t2:Int)(t3:Int)(c:Int)(c2:ji)(last:Bool)(V3:List Int)(V4:Bool)(V5:List Int):Option (Int):=
 LL T B lf 41 0 (ms 81 [(20,au t3),(19,au t2),(18, .rv (.cv ⟨.slice (.st yC),t⟩)),(3, .box 3 0),(1, .box 1 0)] [(1, .cells [⟨.int .i64,c⟩,⟨.slice (.st yC),c2⟩]),(3, .cells [⟨.bool,last⟩,⟨.slice (.int .u32),V3⟩,⟨.bool,V4⟩,⟨.slice (.int .u32),V5⟩])] h0 41)
def eM (a:ByteArray):Option (((Bool×(List Int)×Unit)×(Bool×(List Int)×Unit)×Unit)×Bool):=cn T B lf 42 a
def jL (a:(Bool×(List Int)×Unit)×(Bool×(List Int)×Unit)×Unit):Option ((Bool×(List Int)×Unit)×(Bool×(List Int)×Unit)×Unit):=cn T B lf 43 a
def iJ (a:(Bool×(List Int)×Unit)×(Bool×(List Int)×Unit)×Unit):Option (ByteArray):=cn T B lf 44 a
def slices_SortFunc (x:Nat)(eK:H2):Option ((Unit)×H2):=cn T B lf 50 ((x,()),eK)
def rK (l:List (List Int)):Option (List (List Int)):=cn T B lf 53 l
def gr (l:List (List Int))(i:Int)(out:List (List Int)):Option (List (List Int)):=
 LL T B lf 53 0 ⟨⟨21,[(4,au i),(3, .rv (.own 3)),(0, .rv (.cv ⟨.slice (.slice (.int .i64)),l⟩))],gl⟩,[(3,⟨26, .slice (.int .i64),out⟩)],[],h0,⟨.unit,()⟩,[],T.sites 53⟩
def rL (l:List (List Int))(most:Int)(RY:Int)(n:Int):Option (List (List Int)):=cn T B lf 54 (l,most,RY,n)
def gu (l:List (List Int))(most:Int)(RY:Int)(n:Int)(i:Int)(Zj:List (List Int)):Option (List (List Int)):=
 LL T B lf 54 0 ⟨⟨49,[(10,au i),(9, .rv (.own 9)),(3,au n),(2,au RY),(1,au most),(0, .rv (.cv ⟨.slice (.slice (.int .i64)),l⟩))],gl⟩,[(9,⟨26, .slice (.int .i64),Zj⟩)],[],h0,⟨.unit,()⟩,[],T.sites 54⟩
def eF (t:List (List Int))(t2:Int)(t3:Int)(out:List (List Int)):Option (List (List Int)):=
 LL T B lf 54 1 ⟨⟨49,[(39,au t3),(38,au t2),(37, .rv (.cv ⟨.slice (.slice (.int .i64)),t⟩)),(11, .rv (.own 11))],gl⟩,[(11,⟨99, .slice (.int .i64),out⟩)],[],h0,⟨.unit,()⟩,[],T.sites 54⟩
def rM (n:Int):Option (ByteArray):=cn T B lf 55 n
def yS (l:List (List Int))(values:List ByteArray):Option ((List ((List Int)×ByteArray×Unit))×Int):=cn T B lf 56 (l,values)
def jX (l:List (List Int))(values:List ByteArray)(i:Int):Option ((List ((List Int)×ByteArray×Unit))×Int):=
 LL T B lf 56 0 (ms 83 [(7,au i),(1, .rv (.cv ⟨.slice (.str),values⟩)),(0, .rv (.cv ⟨.slice (.slice (.int .i64)),l⟩))] [] h0 56)
def ik (l:List (List Int))(values:List ByteArray)(i:Int)(out:List ((List Int)×ByteArray×Unit)):Option ((List ((List Int)×ByteArray×Unit))×Int):=
 LL T B lf 56 1 ⟨⟨83,[(9,au i),(8, .rv (.own 8)),(1, .rv (.cv ⟨.slice (.str),values⟩)),(0, .rv (.cv ⟨.slice (.slice (.int .i64)),l⟩))],gl⟩,[(8,⟨101, .st (.pair (.slice (.int .i64)) (.pair (.str) (.unit))),out⟩)],[],h0,⟨.unit,()⟩,[],T.sites 56⟩
def jY (l:List (List Int))(values:List ByteArray)(i:Int)(V2:ByteArray)(k:Int)(out:List ((List Int)×ByteArray×Unit)):Option ((List ((List Int)×ByteArray×Unit))×Int):=
 LL T B lf 56 2 ⟨⟨83,[(11,au k),(10, .rv (.cv ⟨.str,V2⟩)),(9,au i),(8, .rv (.own 8)),(1, .rv (.cv ⟨.slice (.str),values⟩)),(0, .rv (.cv ⟨.slice (.slice (.int .i64)),l⟩))],gl⟩,[(8,⟨101, .st (.pair (.slice (.int .i64)) (.pair (.str) (.unit))),out⟩)],[],h0,⟨.unit,()⟩,[],T.sites 56⟩
def jZ (f:List ((List Int)×ByteArray×Unit)):Option (Int):=cn T B lf 57 f
def cB (f:List ((List Int)×ByteArray×Unit))(i:Int):Option (Int):=
 LL T B lf 57 0 (ms 59 [(3,au i),(0, .rv (.cv ⟨.slice (.st (.pair (.slice (.int .i64)) (.pair (.str) (.unit)))),f⟩))] [] h0 57)
def dj (f:List ((List Int)×ByteArray×Unit))(i:Int)(aQ:List (List Int))(k:Int):Option (Int):=
 LL T B lf 57 1 (ms 59 [(6,au k),(5, .rv (.cv ⟨.slice (.slice (.int .i64)),aQ⟩)),(3,au i),(0, .rv (.cv ⟨.slice (.st (.pair (.slice (.int .i64)) (.pair (.str) (.unit)))),f⟩))] [] h0 57)
def bK (s:List Int):Option (List (List Int)):=cn T B lf 58 s
def cP (s:List Int)(i:Int)(out:List (List Int)):Option (List (List Int)):=
 LL T B lf 58 0 ⟨⟨23,[(4,au i),(3, .rv (.own 3)),(0, .rv (.cv ⟨.slice (.int .i64),s⟩))],gl⟩,[(3,⟨26, .slice (.int .i64),out⟩)],[],h0,⟨.unit,()⟩,[],T.sites 58⟩
def aV (a:List Int)(b:List Int):Option (Int):=cn T B lf 59 (a,b)
def eN (a:List Int)(b:List Int)(i:Int):Option (Int):=
 LL T B lf 59 0 (ms 40 [(5,au i),(1, .rv (.cv ⟨.slice (.int .i64),b⟩)),(0, .rv (.cv ⟨.slice (.int .i64),a⟩))] [] h0 59)
def nP (p:Int)(a:Int):Option (Int):=cn T B lf 60 (p,a)
def eT (p:Int)(a:Int)(b:Int):Option (Int):=
 LL T B lf 60 0 (ms 18 [(5,au b),(1,au a),(0,au p)] [] h0 60)
def dd (a:ByteArray):Option (Bool):=cn T B lf 61 a
def qq (p:Int)(x:b6):Option (Int):=cn T B lf 62 (p,x)
def fy (p:Int)(x:b6)(i:Int):Option (Int):=
 LL T B lf 62 0 (ms 59 [(5,au i),(1, .rv (.cv ⟨.slice (.st yT),x⟩)),(0,au p)] [] h0 62)
def rN (c:hZ)(x:b6):Option (List Int):=cn T B lf 63 (c,x)
def eG (x:b6)(i:Int)(out:List Int)(c:Int)(c2:ji):Option (List Int):=
 LL T B lf 63 0 ⟨⟨66,[(6,au i),(5, .rv (.own 5)),(2, .box 2 0),(1, .rv (.cv ⟨.slice (.st yT),x⟩))],gl⟩,[(5,⟨3, .int .i64,out⟩)],[(2, .cells [⟨.int .i64,c⟩,⟨.slice (.st yC),c2⟩])],h0,⟨.unit,()⟩,[],T.sites 63⟩
def gv (x:b6)(i:Int)(b:b6)(k:Int)(out:List Int)(c:Int)(c2:ji):Option (List Int):=
 LL T B lf 63 1 ⟨⟨66,[(8,au k),(7, .rv (.cv ⟨.slice (.st yT),b⟩)),(6,au i),(5, .rv (.own 5)),(2, .box 2 0),(1, .rv (.cv ⟨.slice (.st yT),x⟩))],gl⟩,[(5,⟨3, .int .i64,out⟩)],[(2, .cells [⟨.int .i64,c⟩,⟨.slice (.st yC),c2⟩])],h0,⟨.unit,()⟩,[],T.sites 63⟩
def bb (a:ByteArray)(b:ByteArray):Option (Int):=cn T B lf 64 (a,b)
def bJ (a:ByteArray):Option (ByteArray×ByteArray×Bool):=cn T B lf 65 a
def dk (a:ByteArray)(i:Int):Option (ByteArray×ByteArray×Bool):=
 LL T B lf 65 0 (ms 24 [(5,au i),(0, .rv (.cv ⟨.str,a⟩))] [] h0 65)
def bu (a:ByteArray):Option (ByteArray):=cn T B lf 66 a
def mf (p:Int):Option (Bool):=cn T B lf 67 p
def jM (p:Int)(t:Int):Option (Bool):=
 LL T B lf 67 0 (ms 27 [(4,au t),(0,au p)] [] h0 67)
def uU (a:ByteArray):Option (Bool):=cn T B lf 68 a
def lH (p:Int)(c:b6):Option (Int):=cn T B lf 69 (p,c)
def gG (p:Int)(c:b6)(t:b6)(t2:Int)(t3:Int):Option (Int):=
 LL T B lf 69 0 (ms 52 [(12,au t3),(11,au t2),(10, .rv (.cv ⟨.slice (.st yT),t⟩)),(1, .rv (.cv ⟨.slice (.st yT),c⟩)),(0,au p)] [] h0 69)
def s6 (t:Int×Int×Unit)(t2:Int):Option (Bool):=cn T B lf 71 (t,t2)
def s7 (t:Int×Int×Unit)(t2:hZ)(t3:zqC):Option (Bool):=cn T B lf 72 (t,t2,t3)
def uV (c:hZ)(x:b6):Option b6:=cn T B lf 73 (c,x)
def mX (t:b6)(t2:Int)(t3:Int)(out:b6)(c:Int)(c2:ji):Option b6:=
 LL T B lf 73 0 ⟨⟨31,[(9,au t3),(8,au t2),(7, .rv (.cv ⟨.slice (.st yT),t⟩)),(4, .rv (.own 4)),(2, .box 2 0)],gl⟩,[(4,⟨44, .st yT,out⟩)],[(2, .cells [⟨.int .i64,c⟩,⟨.slice (.st yC),c2⟩])],h0,⟨.unit,()⟩,[],T.sites 73⟩
def fe (out:b6)(t:b6)(t2:Int)(t3:Int)(c:Int)(c2:ji):Option b6:=
 LL T B lf 73 0 (ms 31 [(9,au t3),(8,au t2),(7, .rv (.cv ⟨.slice (.st yT),t⟩)),(4, .rv (.cv ⟨.slice (.st yT),out⟩)),(2, .box 2 0)] [(2, .cells [⟨.int .i64,c⟩,⟨.slice (.st yC),c2⟩])] h0 73)
def pf (a:(Bool×(List Int)×Unit)×(Bool×(List Int)×Unit)×Unit)(b:(Bool×(List Int)×Unit)×(Bool×(List Int)×Unit)×Unit):Option (Int):=cn T B lf 74 (a,b)
def uW (s:ByteArray)(sep:ByteArray):Option (ByteArray×ByteArray×Bool):=cn T B lf 75 (s,sep)
def FC (a:ByteArray):Option ((Bool×(List Int)×Unit)×Bool):=cn T B lf 76 a
def jN (s:ByteArray)(neg:Bool)(ET:Int)(d:List Int)(t:Bool)(t2:List Int):Option ((Bool×(List Int)×Unit)×Bool):=
 LL T B lf 76 0 ⟨⟨71,[(7,au ET),(6, .rv (.own 6)),(5, .rv (.cv ⟨.bool,neg⟩)),(4, .rv (.cv ⟨.str,s⟩)),(2, .box 2 0)],gl⟩,[(6,⟨168, .int .u32,d⟩)],[(2, .cells [⟨.bool,t⟩,⟨.slice (.int .u32),t2⟩])],h0,⟨.unit,()⟩,[],T.sites 76⟩
def nI (s:ByteArray)(neg:Bool)(ET:Int)(x:Int)(t:List Int)(t2:Int)(t3:Int)(d:List Int)(t4:Bool)(t5:List Int):Option ((Bool×(List Int)×Unit)×Bool):=
 LL T B lf 76 1 ⟨⟨71,[(46,au t3),(45,au t2),(44, .rv (.cv ⟨.slice (.int .u8),t⟩)),(8, .rv (.cv ⟨.int .u32,x⟩)),(7,au ET),(6, .rv (.own 6)),(5, .rv (.cv ⟨.bool,neg⟩)),(4, .rv (.cv ⟨.str,s⟩)),(2, .box 2 0)],gl⟩,[(6,⟨168, .int .u32,d⟩)],[(2, .cells [⟨.bool,t4⟩,⟨.slice (.int .u32),t5⟩])],h0,⟨.unit,()⟩,[],T.sites 76⟩
def yk (n:Int):Option (Bool×(List Int)×Unit):=cn T B lf 77 n
def uX (u:Int)(neg:Bool)(d:List Int)(t:Bool)(t2:List Int):Option (Bool×(List Int)×Unit):=
 LL T B lf 77 0 ⟨⟨26,[(5, .rv (.own 5)),(4, .rv (.cv ⟨.bool,neg⟩)),(3, .rv (.cv ⟨.int .u64,u⟩)),(2, .box 2 0)],gl⟩,[(5,⟨168, .int .u32,d⟩)],[(2, .cells [⟨.bool,t⟩,⟨.slice (.int .u32),t2⟩])],h0,⟨.unit,()⟩,[],T.sites 77⟩
def iK (a:Bool×(List Int)×Unit):Option (Int):=cn T B lf 78 a
def fQ (a:Bool×(List Int)×Unit)(b:Bool×(List Int)×Unit):Option (Int):=cn T B lf 79 (a,b)
def pg (a:Bool×(List Int)×Unit)(b:Bool×(List Int)×Unit):Option (Bool×(List Int)×Unit):=cn T B lf 80 (a,b)
def eg (x:List Int)(y:List Int)(t:Bool)(t2:List Int):Option (Bool×(List Int)×Unit):=
 LL T B lf 80 0 (ms 41 [(6, .rv (.cv ⟨.slice (.int .u32),y⟩)),(5, .rv (.cv ⟨.slice (.int .u32),x⟩)),(4, .box 4 0)] [(4, .cells [⟨.bool,t⟩,⟨.slice (.int .u32),t2⟩])] h0 80)
def ph (a:Bool×(List Int)×Unit):Option (Bool×(List Int)×Unit):=cn T B lf 81 a
def jO (a:(Bool×(List Int)×Unit)×(Bool×(List Int)×Unit)×Unit):Option (Bool×(List Int)×Unit):=cn T B lf 82 a
def mY (a:Bool×(List Int)×Unit):Option (ByteArray):=cn T B lf 83 a
def dD (t:List Int)(t2:Int)(t3:Int)(out:List Int)(a:Bool)(a2:List Int):Option (ByteArray):=
 LL T B lf 83 0 ⟨⟨81,[(21,au t3),(20,au t2),(19, .rv (.cv ⟨.slice (.int .u32),t⟩)),(3, .rv (.own 3)),(1, .box 1 0)],gl⟩,[(3,⟨5, .int .u8,out⟩)],[(1, .cells [⟨.bool,a⟩,⟨.slice (.int .u32),a2⟩])],h0,⟨.unit,()⟩,[],T.sites 83⟩
def eO (x:Int)(t:List Int)(t2:Int)(t3:Int)(t4:Int)(out:List Int)(a:Bool)(a2:List Int):Option (ByteArray):=
 LL T B lf 83 1 ⟨⟨81,[(25,au t4),(21,au t3),(20,au t2),(19, .rv (.cv ⟨.slice (.int .u32),t⟩)),(5, .rv (.cv ⟨.int .u32,x⟩)),(3, .rv (.own 3)),(1, .box 1 0)],gl⟩,[(3,⟨5, .int .u8,out⟩)],[(1, .cells [⟨.bool,a⟩,⟨.slice (.int .u32),a2⟩])],h0,⟨.unit,()⟩,[],T.sites 83⟩
def dE (out:List Int)(a:Bool)(a2:List Int):Option (ByteArray):=
 LL T B lf 83 2 ⟨⟨81,[(3, .rv (.own 3)),(1, .box 1 0)],gl⟩,[(3,⟨5, .int .u8,out⟩)],[(1, .cells [⟨.bool,a⟩,⟨.slice (.int .u32),a2⟩])],h0,⟨.unit,()⟩,[],T.sites 83⟩
def dF (i:Int)(j:Int)(out:List Int):Option (ByteArray):=
 LL T B lf 83 3 ⟨⟨81,[(7,au j),(6,au i),(3, .rv (.own 3))],gl⟩,[(3,⟨5, .int .u8,out⟩)],[],h0,⟨.unit,()⟩,[],T.sites 83⟩
def rO (s:b6):Option b6:=cn T B lf 84 s
def ki (c:b6):Option (Int×Bool):=cn T B lf 85 c
def B9 (p:Int)(a:Int):Option (Int×Int):=cn T B lf 86 (p,a)
def je (p:Int)(a:b6)(k:Int)(b:b6):Option (b6×Int):=cn T B lf 87 (p,a,k,b)
def s8 (p:Int)(a:Int):Option (Int):=cn T B lf 88 (p,a)
def rP (l:List Int)(most:Int)(n:Int):Option (List Int):=cn T B lf 93 (l,most,n)
def gw (l:List Int)(most:Int)(n:Int)(i:Int)(out:List Int):Option (List Int):=
 LL T B lf 93 0 ⟨⟨52,[(8,au i),(7, .rv (.own 7)),(2,au n),(1,au most),(0, .rv (.cv ⟨.slice (.int .i64),l⟩))],gl⟩,[(7,⟨3, .int .i64,out⟩)],[],h0,⟨.unit,()⟩,[],T.sites 93⟩
def lI (l:List (List Int)):Option (List (List Int)):=cn T B lf 94 l
def fz (l:List (List Int))(i:Int)(out:List (List Int)):Option (List (List Int)):=
 LL T B lf 94 0 ⟨⟨31,[(4,au i),(3, .rv (.own 3)),(0, .rv (.cv ⟨.slice (.slice (.int .i64)),l⟩))],gl⟩,[(3,⟨26, .slice (.int .i64),out⟩)],[],h0,⟨.unit,()⟩,[],T.sites 94⟩
def qL (l:List (List Int))(i:Int)(f:List (List Int))(k:Int)(out:List (List Int)):Option (List (List Int)):=
 LL T B lf 94 1 ⟨⟨31,[(6,au k),(5, .rv (.cv ⟨.slice (.slice (.int .i64)),f⟩)),(4,au i),(3, .rv (.own 3)),(0, .rv (.cv ⟨.slice (.slice (.int .i64)),l⟩))],gl⟩,[(3,⟨26, .slice (.int .i64),out⟩)],[],h0,⟨.unit,()⟩,[],T.sites 94⟩
def cr (l:List (List Int))(out:List (List Int))(i:Int)(f:List (List Int))(k:Int):Option (List (List Int)):=
 LL T B lf 94 1 (ms 31 [(6,au k),(5, .rv (.cv ⟨.slice (.slice (.int .i64)),f⟩)),(4,au i),(3, .rv (.cv ⟨.slice (.slice (.int .i64)),out⟩)),(0, .rv (.cv ⟨.slice (.slice (.int .i64)),l⟩))] [] h0 94)
def gW (l:List (List Int))(out:List (List Int))(i:Int):Option (List (List Int)):=
 LL T B lf 94 0 (ms 31 [(4,au i),(3, .rv (.cv ⟨.slice (.slice (.int .i64)),out⟩)),(0, .rv (.cv ⟨.slice (.slice (.int .i64)),l⟩))] [] h0 94)
def gz (a:Int)(b:Int):Option (ByteArray):=cn T B lf 95 (a,b)
def rQ (l:List (List Int)):Option (Int):=cn T B lf 96 l
def eH (l:List (List Int))(i:Int):Option (Int):=
 LL T B lf 96 0 (ms 72 [(3,au i),(0, .rv (.cv ⟨.slice (.slice (.int .i64)),l⟩))] [] h0 96)
def gA (l:List (List Int))(i:Int)(f:List (List Int))(k:Int):Option (Int):=
 LL T B lf 96 1 (ms 72 [(6,au k),(5, .rv (.cv ⟨.slice (.slice (.int .i64)),f⟩)),(3,au i),(0, .rv (.cv ⟨.slice (.slice (.int .i64)),l⟩))] [] h0 96)
def vR (a:List Int)(b:List Int):Option (Bool):=cn T B lf 97 (a,b)
def iS (a:List Int)(b:List Int)(i:Int):Option (Bool):=
 LL T B lf 97 0 (ms 19 [(5,au i),(1, .rv (.cv ⟨.slice (.int .i64),b⟩)),(0, .rv (.cv ⟨.slice (.int .i64),a⟩))] [] h0 97)
def qs (l:List ((List Int)×ByteArray×Unit)):Option (List ((List Int)×ByteArray×Unit)):=cn T B lf 98 l
def cQ (out:Nat)(i:Int)(aD:H4)(kF:H8):Option (List ((List Int)×ByteArray×Unit)):=
 LL T B lf 98 0 (ms 70 [(4,au i),(3, .rv (.cv ⟨.ref 8,out⟩))] [] (hs [] [] [] [] aD [] [] [] kF []) 98)
def dK (out:Nat)(i:Int)(k:Int)(aD:H4)(kF:H8):Option (List ((List Int)×ByteArray×Unit)):=
 LL T B lf 98 1 (ms 70 [(5,au k),(4,au i),(3, .rv (.cv ⟨.ref 8,out⟩))] [] (hs [] [] [] [] aD [] [] [] kF []) 98)
def lB (f:List ((List Int)×ByteArray×Unit))(i:Int):Option (Int):=cn T B lf 99 (f,i)
def fA (f:List ((List Int)×ByteArray×Unit))(n:Int)(s:List Int):Option (Int):=cn T B lf 100 (f,n,s)
def dm (f:List ((List Int)×ByteArray×Unit))(n:Int)(s:List Int)(i:Int):Option (Int):=
 LL T B lf 100 0 (ms 22 [(7,au i),(2, .rv (.cv ⟨.slice (.int .i64),s⟩)),(1,au n),(0, .rv (.cv ⟨.slice (.st (.pair (.slice (.int .i64)) (.pair (.str) (.unit)))),f⟩))] [] h0 100)
def il (s:List Int)(k:Int):Option (List Int):=cn T B lf 101 (s,k)
def cu (s:List Int)(k:Int)(i:Int)(out:List Int):Option (List Int):=
 LL T B lf 101 0 ⟨⟨24,[(6,au i),(5, .rv (.own 5)),(1,au k),(0, .rv (.cv ⟨.slice (.int .i64),s⟩))],gl⟩,[(5,⟨3, .int .i64,out⟩)],[],h0,⟨.unit,()⟩,[],T.sites 101⟩
def lC (a:ByteArray):Option (Bool):=cn T B lf 102 a
def pj (a:ByteArray):Option (Bool):=cn T B lf 103 a
def bN (a:ByteArray)(b:ByteArray):Option (Int):=cn T B lf 104 (a,b)
def fB (a:ByteArray)(b:ByteArray):Option (ByteArray):=cn T B lf 105 (a,b)
def bw (p:Bool)(x:List Int)(q:Bool)(y:List Int)(i:Int)(out:List Int):Option (ByteArray):=
 LL T B lf 105 0 ⟨⟨120,[(14,au i),(13, .rv (.own 13)),(12, .rv (.cv ⟨.slice (.int .i64),y⟩)),(11, .rv (.cv ⟨.bool,q⟩)),(10, .rv (.cv ⟨.slice (.int .i64),x⟩)),(9, .rv (.cv ⟨.bool,p⟩))],gl⟩,[(13,⟨3, .int .i64,out⟩)],[],h0,⟨.unit,()⟩,[],T.sites 105⟩
def dn (p:Bool)(x:List Int)(q:Bool)(y:List Int)(i:Int)(k:Int)(out:List Int):Option (ByteArray):=
 LL T B lf 105 1 ⟨⟨120,[(15,au k),(14,au i),(13, .rv (.own 13)),(12, .rv (.cv ⟨.slice (.int .i64),y⟩)),(11, .rv (.cv ⟨.bool,q⟩)),(10, .rv (.cv ⟨.slice (.int .i64),x⟩)),(9, .rv (.cv ⟨.bool,p⟩))],gl⟩,[(13,⟨3, .int .i64,out⟩)],[],h0,⟨.unit,()⟩,[],T.sites 105⟩
def cC (p:Bool)(q:Bool)(i:Int)(out:List Int):Option (ByteArray):=
 LL T B lf 105 2 ⟨⟨120,[(16,au i),(13, .rv (.own 13)),(11, .rv (.cv ⟨.bool,q⟩)),(9, .rv (.cv ⟨.bool,p⟩))],gl⟩,[(13,⟨3, .int .i64,out⟩)],[],h0,⟨.unit,()⟩,[],T.sites 105⟩
def ao (a:ByteArray):Option (Bool×List Int):=cn T B lf 106 a
def cR (a:ByteArray)(minus:Bool)(i:Int)(d:List Int):Option (Bool×List Int):=
 LL T B lf 106 0 ⟨⟨37,[(6,au i),(5, .rv (.own 5)),(4, .rv (.cv ⟨.bool,minus⟩)),(0, .rv (.cv ⟨.str,a⟩))],gl⟩,[(5,⟨3, .int .i64,d⟩)],[],h0,⟨.unit,()⟩,[],T.sites 106⟩
def al (minus:Bool)(d:List Int):Option (ByteArray):=cn T B lf 107 (minus,d)
def dL (d:List Int)(i:Int)(out:List Int):Option (ByteArray):=
 LL T B lf 107 0 ⟨⟨34,[(6,au i),(5, .rv (.own 5)),(1, .rv (.cv ⟨.slice (.int .i64),d⟩))],gl⟩,[(5,⟨5, .int .u8,out⟩)],[],h0,⟨.unit,()⟩,[],T.sites 107⟩
def Ca (a:ByteArray):Option (((Bool×(List Int)×Unit)×(Bool×(List Int)×Unit)×Unit)×Bool):=cn T B lf 108 a
def pk (a:Bool×(List Int)×Unit)(b:Bool×(List Int)×Unit):Option (Bool×(List Int)×Unit):=cn T B lf 110 (a,b)
def de (t:List Int)(t2:Int)(t3:Int)(out:List Int)(a:Bool)(a2:List Int)(b:Bool)(b2:List Int)(t4:Bool)(t5:List Int):Option (Bool×(List Int)×Unit):=
 LL T B lf 110 0 ⟨⟨78,[(22,au t3),(21,au t2),(20, .rv (.cv ⟨.slice (.int .u32),t⟩)),(5, .rv (.own 5)),(4, .box 4 0),(3, .box 3 0),(2, .box 2 0)],gl⟩,[(5,⟨168, .int .u32,out⟩)],[(2, .cells [⟨.bool,a⟩,⟨.slice (.int .u32),a2⟩]),(3, .cells [⟨.bool,b⟩,⟨.slice (.int .u32),b2⟩]),(4, .cells [⟨.bool,t4⟩,⟨.slice (.int .u32),t5⟩])],h0,⟨.unit,()⟩,[],T.sites 110⟩
def fC (i:Int)(x:Int)(carry:Int)(t:List Int)(t2:Int)(t3:Int)(t4:List Int)(t5:Int)(t6:Int)(out:List Int)(a:Bool)(a2:List Int)(b:Bool)(b2:List Int)(t7:Bool)(t8:List Int):Option (Bool×(List Int)×Unit):=
 LL T B lf 110 1 ⟨⟨78,[(30,au t6),(29,au t5),(28, .rv (.cv ⟨.slice (.int .u32),t4⟩)),(22,au t3),(21,au t2),(20, .rv (.cv ⟨.slice (.int .u32),t⟩)),(8, .rv (.cv ⟨.int .u64,carry⟩)),(7, .rv (.cv ⟨.int .u32,x⟩)),(6,au i),(5, .rv (.own 5)),(4, .box 4 0),(3, .box 3 0),(2, .box 2 0)],gl⟩,[(5,⟨168, .int .u32,out⟩)],[(2, .cells [⟨.bool,a⟩,⟨.slice (.int .u32),a2⟩]),(3, .cells [⟨.bool,b⟩,⟨.slice (.int .u32),b2⟩]),(4, .cells [⟨.bool,t7⟩,⟨.slice (.int .u32),t8⟩])],h0,⟨.unit,()⟩,[],T.sites 110⟩
def o8 (s:ByteArray)(sep:ByteArray):Option (ByteArray×ByteArray×Bool):=cn T B lf 111 (s,sep)
def iT (s:ByteArray)(fg:ByteArray):Option (ByteArray×Bool):=cn T B lf 112 (s,fg)
def jf (neg:Bool)(d:List Int):Option (Bool×(List Int)×Unit):=cn T B lf 113 (neg,d)
def zq (a:List Int)(b:List Int):Option (Int):=cn T B lf 114 (a,b)
def nJ (a:List Int)(b:List Int)(i:Int):Option (Int):=
 LL T B lf 114 0 (ms 41 [(5,au i),(1, .rv (.cv ⟨.slice (.int .u32),b⟩)),(0, .rv (.cv ⟨.slice (.int .u32),a⟩))] [] h0 114)
def FD (x:Int)(y:Int):Option (Int):=cn T B lf 115 (x,y)
def lJ (x:Int)(y:Int):Option (Int):=
 LL T B lf 115 0 (ms 12 [(1,au y),(0,au x)] [] h0 115)
def FE (d:List Int):Option (Int):=cn T B lf 116 d
def qM (d:List Int)(n:Int)(i:Int):Option (Int):=
 LL T B lf 116 0 (ms 21 [(4,au i),(3,au n),(0, .rv (.cv ⟨.slice (.int .u32),d⟩))] [] h0 116)
def yl (a:List Int)(b:List Int):Option ((List Int)×List Int):=cn T B lf 117 (a,b)
def mZ (d:List Int):Option (List Int):=cn T B lf 118 d
def nK (d:List Int):Option (List Int):=
 LL T B lf 118 0 (ms 21 [(0, .rv (.cv ⟨.slice (.int .u32),d⟩))] [] h0 118)
def Hc (p:Int):Option (Int×Int):=cn T B lf 119 p
def ed (f:Int)(a:Int):Option (Int):=cn T B lf 120 (f,a)
def kj (f:Int)(a:Int):Option (Int):=cn T B lf 121 (f,a)
def o9 (p:Int)(l:List b6):Option (Int):=cn T B lf 122 (p,l)
def fh (p:Int)(t:List b6)(t2:Int)(t3:Int):Option (Int):=
 LL T B lf 122 0 (ms 21 [(10,au t3),(9,au t2),(8, .rv (.cv ⟨.slice (.slice (.st yT)),t⟩)),(0,au p)] [] h0 122)
def uY (p:Int)(a:b6)(k:Int)(b:b6):Option b6:=cn T B lf 123 (p,a,k,b)
def iL (row:b6)(p:Int)(k:Int)(rest:List (Int×GI×Unit)):Option b6:=
 LL T B lf 123 0 ⟨⟨36,[(9, .box 9 0),(6, .box 6 0),(4, .box 4 0)],[(10009, .box 9 0),(10006, .box 6 0),(10004, .box 4 0),(1000000000, .pd [⟨.fn,(197:Nat)⟩,⟨.bool,false⟩]),(1000000001, .pd [⟨.fn,(199:Nat)⟩,⟨.bool,true⟩])]⟩,[(9,⟨44, .st yT,row⟩)],[(4, .cells [⟨.int .i64,p⟩]),(6, .cells [⟨.int .i64,k⟩]),(9, .own 9)],h0,⟨.unit,()⟩,[⟨[.int .i64, .st yT],rest⟩],T.sites 123⟩
def pn (a:List Int)(v:Int):Option (Bool):=cn T B lf 134 (a,v)
def j0 (a:List Int)(v:Int)(i:Int):Option (Bool):=
 LL T B lf 134 0 (ms 18 [(5,au i),(1,au v),(0, .rv (.cv ⟨.slice (.int .i64),a⟩))] [] h0 134)
def iU (l:List Int):Option ((List Int)×Int):=cn T B lf 135 l
def dM (n:Int)(i:Int)(out:List Int):Option ((List Int)×Int):=
 LL T B lf 135 0 ⟨⟨54,[(6,au i),(5,au n),(4, .rv (.own 4))],gl⟩,[(4,⟨3, .int .i64,out⟩)],[],h0,⟨.unit,()⟩,[],T.sites 135⟩
def fD (n:Int)(i:Int)(k:Int)(out:List Int):Option ((List Int)×Int):=
 LL T B lf 135 1 ⟨⟨54,[(7,au k),(6,au i),(5,au n),(4, .rv (.own 4))],gl⟩,[(4,⟨3, .int .i64,out⟩)],[],h0,⟨.unit,()⟩,[],T.sites 135⟩
def j5 (s:List Int):Option (List (List Int)):=cn T B lf 136 s
def ss (s:List Int)(m:Int)(out:List (List Int)):Option (List (List Int)):=
 LL T B lf 136 0 ⟨⟨36,[(4,au m),(3, .rv (.own 3)),(0, .rv (.cv ⟨.slice (.int .i64),s⟩))],gl⟩,[(3,⟨26, .slice (.int .i64),out⟩)],[],h0,⟨.unit,()⟩,[],T.sites 136⟩
def gB (s:List Int)(m:Int)(i:Int)(out:List (List Int))(f:List Int):Option (List (List Int)):=
 LL T B lf 136 1 ⟨⟨36,[(6,au i),(5, .rv (.own 5)),(4,au m),(3, .rv (.own 3)),(0, .rv (.cv ⟨.slice (.int .i64),s⟩))],gl⟩,[(3,⟨26, .slice (.int .i64),out⟩),(5,⟨3, .int .i64,f⟩)],[],h0,⟨.unit,()⟩,[],T.sites 136⟩
def cS (s:List Int)(out:List (List Int))(m:Int):Option (List (List Int)):=
 LL T B lf 136 0 (ms 36 [(4,au m),(3, .rv (.cv ⟨.slice (.slice (.int .i64)),out⟩)),(0, .rv (.cv ⟨.slice (.int .i64),s⟩))] [] h0 136)
def fE (s:List Int)(out:List (List Int))(m:Int)(i:Int)(f:List Int):Option (List (List Int)):=
 LL T B lf 136 1 ⟨⟨36,[(6,au i),(5, .rv (.own 5)),(4,au m),(3, .rv (.cv ⟨.slice (.slice (.int .i64)),out⟩)),(0, .rv (.cv ⟨.slice (.int .i64),s⟩))],gl⟩,[(5,⟨3, .int .i64,f⟩)],[],h0,⟨.unit,()⟩,[],T.sites 136⟩
def fa (l:List (List Int))(s:List Int):Option (List (List Int)):=cn T B lf 137 (l,s)
def iV (l:List (List Int))(s:List Int)(done:Bool)(i:Int)(out:List (List Int)):Option (List (List Int)):=
 LL T B lf 137 0 ⟨⟨48,[(7,au i),(6, .rv (.cv ⟨.bool,done⟩)),(5, .rv (.own 5)),(1, .rv (.cv ⟨.slice (.int .i64),s⟩)),(0, .rv (.cv ⟨.slice (.slice (.int .i64)),l⟩))],gl⟩,[(5,⟨26, .slice (.int .i64),out⟩)],[],h0,⟨.unit,()⟩,[],T.sites 137⟩
def kl (n:ByteArray)(d:ByteArray):Option (ByteArray):=cn T B lf 138 (n,d)
def bL (n:Int):Option (ByteArray):=cn T B lf 139 n
def cU (q:Int)(d:List Int):Option (ByteArray):=
 LL T B lf 139 0 ⟨⟨42,[(5, .rv (.own 5)),(3,au q)],gl⟩,[(5,⟨3, .int .i64,d⟩)],[],h0,⟨.unit,()⟩,[],T.sites 139⟩
def cV (n:Int)(d:List Int):Option (ByteArray):=
 LL T B lf 139 1 ⟨⟨42,[(6, .rv (.own 6)),(0,au n)],gl⟩,[(6,⟨3, .int .i64,d⟩)],[],h0,⟨.unit,()⟩,[],T.sites 139⟩
def fF (s:List Int):Option (Int):=cn T B lf 140 s
def dp (s:List Int)(i:Int):Option (Int):=
 LL T B lf 140 0 (ms 45 [(3,au i),(0, .rv (.cv ⟨.slice (.int .i64),s⟩))] [] h0 140)
def dq (s:List Int)(i:Int):Option (Int):=
 LL T B lf 140 1 (ms 45 [(4,au i),(0, .rv (.cv ⟨.slice (.int .i64),s⟩))] [] h0 140)
def ym (l:List (List Int))(s:List Int):Option (Int):=cn T B lf 141 (l,s)
def gC (l:List (List Int))(s:List Int)(i:Int):Option (Int):=
 LL T B lf 141 0 (ms 20 [(5,au i),(1, .rv (.cv ⟨.slice (.int .i64),s⟩)),(0, .rv (.cv ⟨.slice (.slice (.int .i64)),l⟩))] [] h0 141)
def qt (l:List ((List Int)×ByteArray×Unit))(kF:H8)(aD:H4):Option ((Nat)×H8×H4):=cn T B lf 142 (l,(kF,aD))
def fG (l:List ((List Int)×ByteArray×Unit))(out:Nat)(i:Int)(aD:H4)(kF:H8):Option ((Nat)×H8×H4):=
 LL T B lf 142 0 (ms 28 [(4,au i),(3, .rv (.cv ⟨.ref 8,out⟩)),(0, .rv (.cv ⟨.slice (.st (.pair (.slice (.int .i64)) (.pair (.str) (.unit)))),l⟩))] [] (hs [] [] [] [] aD [] [] [] kF []) 142)
def jg (a:ByteArray):Option (Bool):=cn T B lf 143 a
def j6 (a:ByteArray):Option (Bool):=cn T B lf 144 a
def cD (s:ByteArray)(i:Int):Option (Bool):=
 LL T B lf 144 0 (ms 53 [(4,au i),(3, .rv (.cv ⟨.str,s⟩))] [] h0 144)
def dN (a:ByteArray)(b:ByteArray):Option (ByteArray):=cn T B lf 145 (a,b)
def cw (x:ByteArray)(y:ByteArray):Option (ByteArray):=
 LL T B lf 145 0 (ms 24 [(6, .rv (.cv ⟨.str,y⟩)),(5, .rv (.cv ⟨.str,x⟩))] [] h0 145)
def c9 (a:List Int)(b:List Int):Option (Int):=cn T B lf 146 (a,b)
def dO (a:List Int)(b:List Int)(i:Int):Option (Int):=
 LL T B lf 146 0 (ms 41 [(5,au i),(1, .rv (.cv ⟨.slice (.int .i64),b⟩)),(0, .rv (.cv ⟨.slice (.int .i64),a⟩))] [] h0 146)
def df (a:ByteArray):Option (Int×Bool):=cn T B lf 147 a
def dr (a:ByteArray)(n:Int)(i:Int):Option (Int×Bool):=
 LL T B lf 147 0 (ms 38 [(5,au i),(4,au n),(0, .rv (.cv ⟨.str,a⟩))] [] h0 147)
def bg (d:List Int):Option (List Int):=cn T B lf 148 d
def dP (d:List Int):Option (List Int):=
 LL T B lf 148 0 (ms 21 [(0, .rv (.cv ⟨.slice (.int .i64),d⟩))] [] h0 148)
def na (a:(Bool×(List Int)×Unit)×(Bool×(List Int)×Unit)×Unit):Option (Bool):=cn T B lf 149 a
def iW (s:ByteArray)(substr:ByteArray):Option (Int):=cn T B lf 150 (s,substr)
def gX (s:ByteArray)(fg:ByteArray):Option (ByteArray×Bool):=cn T B lf 151 (s,fg)
def uZ (a:List Int)(b:Int):Option ((List Int)×Int):=cn T B lf 152 (a,b)
def lK (a:List Int)(b:Int)(rest:Int)(i:Int)(out:List Int):Option ((List Int)×Int):=
 LL T B lf 152 0 ⟨⟨42,[(8,au i),(7, .rv (.cv ⟨.int .u64,rest⟩)),(6, .rv (.own 6)),(1, .rv (.cv ⟨.int .u32,b⟩)),(0, .rv (.cv ⟨.slice (.int .u32),a⟩))],gl⟩,[(6,⟨168, .int .u32,out⟩)],[],h0,⟨.unit,()⟩,[],T.sites 152⟩
def FF (a:List Int)(b:List Int):Option ((List Int)×List Int):=cn T B lf 153 (a,b)
def eP (k:Int)(v:List Int)(n:Int)(j:Int)(q:List Int)(u:List Int):Option ((List Int)×List Int):=
 LL T B lf 153 0 ⟨⟨239,[(10,au j),(9,au n),(8, .rv (.cv ⟨.slice (.int .u32),v⟩)),(7, .rv (.own 7)),(6, .rv (.cv ⟨.int .u32,k⟩)),(4, .rv (.own 4))],gl⟩,[(4,⟨168, .int .u32,q⟩),(7,⟨168, .int .u32,u⟩)],[],h0,⟨.unit,()⟩,[],T.sites 153⟩
def jP (k:Int)(v:List Int)(n:Int)(j:Int)(guess:Int)(rest:Int)(q:List Int)(u:List Int):Option ((List Int)×List Int):=
 LL T B lf 153 1 ⟨⟨239,[(13, .rv (.cv ⟨.int .u64,rest⟩)),(12, .rv (.cv ⟨.int .u64,guess⟩)),(10,au j),(9,au n),(8, .rv (.cv ⟨.slice (.int .u32),v⟩)),(7, .rv (.own 7)),(6, .rv (.cv ⟨.int .u32,k⟩)),(4, .rv (.own 4))],gl⟩,[(4,⟨168, .int .u32,q⟩),(7,⟨168, .int .u32,u⟩)],[],h0,⟨.unit,()⟩,[],T.sites 153⟩
def gH (k:Int)(v:List Int)(n:Int)(j:Int)(guess:Int)(borrow:Int)(t:Int)(t2:Int)(q:List Int)(u:List Int):Option ((List Int)×List Int):=
 LL T B lf 153 2 ⟨⟨239,[(124,au t2),(123,au t),(14,au borrow),(12, .rv (.cv ⟨.int .u64,guess⟩)),(10,au j),(9,au n),(8, .rv (.cv ⟨.slice (.int .u32),v⟩)),(7, .rv (.own 7)),(6, .rv (.cv ⟨.int .u32,k⟩)),(4, .rv (.own 4))],gl⟩,[(4,⟨168, .int .u32,q⟩),(7,⟨168, .int .u32,u⟩)],[],h0,⟨.unit,()⟩,[],T.sites 153⟩
def lL (k:Int)(v:List Int)(n:Int)(j:Int)(guess:Int)(x:Int)(carry:Int)(t:Int)(t2:Int)(q:List Int)(u:List Int):Option ((List Int)×List Int):=
 LL T B lf 153 3 ⟨⟨239,[(189,au t2),(188,au t),(18, .rv (.cv ⟨.int .u32,carry⟩)),(17,au x),(12, .rv (.cv ⟨.int .u64,guess⟩)),(10,au j),(9,au n),(8, .rv (.cv ⟨.slice (.int .u32),v⟩)),(7, .rv (.own 7)),(6, .rv (.cv ⟨.int .u32,k⟩)),(4, .rv (.own 4))],gl⟩,[(4,⟨168, .int .u32,q⟩),(7,⟨168, .int .u32,u⟩)],[],h0,⟨.unit,()⟩,[],T.sites 153⟩
def nb (f:Int)(a:Int)(n:Int):Option (Int):=cn T B lf 154 (f,a,n)
def eI (f:Int)(n:Int)(out:Int)(base:Int):Option (Int):=
 LL T B lf 154 0 (ms 30 [(8,au base),(7,au out),(2,au n),(0,au f)] [] h0 154)
def s9 (a:b6)(b:b6):Option (b6×b6):=cn T B lf 155 (a,b)
def du (a:ByteArray)(b:ByteArray):Option (ByteArray×ByteArray):=cn T B lf 161 (a,b)
def bk (b:ByteArray)(p:Bool)(x:List Int)(s:Bool)(y:List Int)(r:List Int)(i:Int)(q:List Int):Option (ByteArray×ByteArray):=
 LL T B lf 161 0 ⟨⟨164,[(19,au i),(18, .rv (.cv ⟨.slice (.int .i64),r⟩)),(17, .rv (.own 17)),(15, .rv (.cv ⟨.slice (.int .i64),y⟩)),(14, .rv (.cv ⟨.bool,s⟩)),(13, .rv (.cv ⟨.slice (.int .i64),x⟩)),(12, .rv (.cv ⟨.bool,p⟩)),(1, .rv (.cv ⟨.str,b⟩))],gl⟩,[(17,⟨3, .int .i64,q⟩)],[],h0,⟨.unit,()⟩,[],T.sites 161⟩
def cj (b:ByteArray)(p:Bool)(x:List Int)(s:Bool)(y:List Int)(r:List Int)(i:Int)(k:Int)(q:List Int):Option (ByteArray×ByteArray):=
 LL T B lf 161 1 ⟨⟨164,[(20,au k),(19,au i),(18, .rv (.cv ⟨.slice (.int .i64),r⟩)),(17, .rv (.own 17)),(15, .rv (.cv ⟨.slice (.int .i64),y⟩)),(14, .rv (.cv ⟨.bool,s⟩)),(13, .rv (.cv ⟨.slice (.int .i64),x⟩)),(12, .rv (.cv ⟨.bool,p⟩)),(1, .rv (.cv ⟨.str,b⟩))],gl⟩,[(17,⟨3, .int .i64,q⟩)],[],h0,⟨.unit,()⟩,[],T.sites 161⟩
def aH (b:ByteArray)(p:Bool)(s:Bool)(r:List Int)(i:Int)(q:List Int):Option (ByteArray×ByteArray):=
 LL T B lf 161 2 ⟨⟨164,[(21,au i),(18, .rv (.cv ⟨.slice (.int .i64),r⟩)),(17, .rv (.own 17)),(14, .rv (.cv ⟨.bool,s⟩)),(12, .rv (.cv ⟨.bool,p⟩)),(1, .rv (.cv ⟨.str,b⟩))],gl⟩,[(17,⟨3, .int .i64,q⟩)],[],h0,⟨.unit,()⟩,[],T.sites 161⟩
def eQ (a:ByteArray):Option (Int):=cn T B lf 162 a
def gD (a:ByteArray):Option (ByteArray):=cn T B lf 163 a
def nc (a:Bool×(List Int)×Unit):Option (Bool):=cn T B lf 164 a
def eU (s:ByteArray)(c:Int):Option (Int):=cn T B lf 165 (s,c)
def gY (s:ByteArray)(fg:ByteArray):Option (Bool):=cn T B lf 169 (s,fg)
def yn (a:List Int)(k:Int):Option (List Int):=cn T B lf 170 (a,k)
def jQ (k:Int)(carry:Int)(t:List Int)(t2:Int)(t3:Int)(out:List Int):Option (List Int):=
 LL T B lf 170 0 ⟨⟨40,[(15,au t3),(14,au t2),(13, .rv (.cv ⟨.slice (.int .u32),t⟩)),(6, .rv (.cv ⟨.int .u64,carry⟩)),(5, .rv (.own 5)),(1, .rv (.cv ⟨.int .u32,k⟩))],gl⟩,[(5,⟨168, .int .u32,out⟩)],[],h0,⟨.unit,()⟩,[],T.sites 170⟩
def pa (t:b6)(t2:b6):Option (List (Int×GI×Unit)):=cn T B lf 171 ((),t,t2)
def dQ (t:b6)(t2:b6)(trace:List (Int×GI×Unit)):Option (List (Int×GI×Unit)):=
 LL T B lf 171 0 ⟨⟨94,[(2, .box 2 0),(1, .box 1 0),(0, .LM)],gl⟩,[],[(1, .cells [⟨.slice (.st yT),t⟩]),(2, .cells [⟨.slice (.st yT),t2⟩])],h0,⟨.slice (.pair (.int .i64) (.pair (.st yT) (.unit))),trace⟩,[],T.sites 171⟩
def aW (a:List Int)(b:List Int):Option (List Int):=cn T B lf 173 (a,b)
def bD (a:List Int)(b:List Int)(borrow:Int)(i:Int)(out:List Int):Option (List Int):=
 LL T B lf 173 0 ⟨⟨41,[(7,au i),(6,au borrow),(5, .rv (.own 5)),(1, .rv (.cv ⟨.slice (.int .i64),b⟩)),(0, .rv (.cv ⟨.slice (.int .i64),a⟩))],gl⟩,[(5,⟨3, .int .i64,out⟩)],[],h0,⟨.unit,()⟩,[],T.sites 173⟩
def j7 (a:ByteArray)(b:ByteArray):Option (ByteArray):=cn T B lf 174 (a,b)
def gI (a:ByteArray)(b:ByteArray):Option (ByteArray):=cn T B lf 175 (a,b)
def im (a:Bool×(List Int)×Unit):Option (Int):=cn T B lf 176 a
def dv (n:Int)(x:Int):Option (Int):=
 LL T B lf 176 0 (ms 29 [(4, .rv (.cv ⟨.int .u32,x⟩)),(3,au n)] [] h0 176)
def iM (a:List Int)(b:List Int):Option (List Int):=cn T B lf 179 (a,b)
def eR (a:List Int)(b:List Int)(carry:Int)(i:Int)(out:List Int):Option (List Int):=
 LL T B lf 179 0 ⟨⟨54,[(7,au i),(6,au carry),(5, .rv (.own 5)),(1, .rv (.cv ⟨.slice (.int .i64),b⟩)),(0, .rv (.cv ⟨.slice (.int .i64),a⟩))],gl⟩,[(5,⟨3, .int .i64,out⟩)],[],h0,⟨.unit,()⟩,[],T.sites 179⟩
def pb (c:hZ):Option hZ:=cn T B lf 196 c
def lM (t:hZ):Option (List (Int×Unit)):=cn T B lf 197 ((),t)
def dR (t:Int)(t2:Int)(trace:List (Int×Unit)):Option (List (Int×Unit)):=
 LL T B lf 197 0 ⟨⟨15,[(7,au t2),(6,au t),(0, .LM)],gl⟩,[],[],h0,⟨.slice (.pair (.int .i64) (.unit)),trace⟩,[],T.sites 197⟩
def nf (c:hZ):Option hZ:=cn T B lf 198 c
def km (t:hZ):Option (List (Int×Unit)):=cn T B lf 199 ((),t)
def dw (d:Int)(t:Int)(t2:ji)(trace:List (Int×Unit)):Option (List (Int×Unit)):=
 LL T B lf 199 0 ⟨⟨29,[(3,au d),(1, .box 1 0),(0, .LM)],gl⟩,[],[(1, .cells [⟨.int .i64,t⟩,⟨.slice (.st yC),t2⟩])],h0,⟨.slice (.pair (.int .i64) (.unit)),trace⟩,[],T.sites 199⟩
def dx (d:Int)(t:ji)(t2:Int)(t3:Int)(t4:Int)(t5:ji)(trace:List (Int×Unit)):Option (List (Int×Unit)):=
 LL T B lf 199 1 ⟨⟨29,[(13,au t3),(12,au t2),(11, .rv (.cv ⟨.slice (.st yC),t⟩)),(3,au d),(1, .box 1 0),(0, .LM)],gl⟩,[],[(1, .cells [⟨.int .i64,t4⟩,⟨.slice (.st yC),t5⟩])],h0,⟨.slice (.pair (.int .i64) (.unit)),trace⟩,[],T.sites 199⟩
def ta (c:hZ)(eK:H2):Option ((Nat×GI×Int)×H2):=cn T B lf 100045 ((c,(),()),eK)
def qN (c:hZ)(eK:H2):Option ((Nat×GI×Int)×H2):=cn T B lf 100145 ((c,(),()),eK)
def jn (c:hZ)(eK:H2):Option ((Nat×Int×Int×Unit)×H2):=cn T B lf 100046 (((),c),eK)
def cX (out:Nat)(t:Int)(t2:Int)(row:H2)(bO:List Int)(e:Bool)(c:Int)(c2:ji)(w:Int)(w2:Int)(eK:H2):Option ((Nat×Int×Int×Unit)×H2):=
 LL T B lf 100046 0 ⟨⟨155,[(28,au t2),(27,au t),(8, .box 8 0),(7, .box 7 0),(5, .box 5 0),(4, .rv (.cv ⟨.ref 3,out⟩)),(3, .box 3 0),(2, .box 2 0)],gl⟩,[(7,⟨40, .qj (.st yT),row⟩),(8,⟨3, .int .i64,bO⟩)],[(2, .cells [⟨.fn,(197:Nat)⟩,⟨.bool,e⟩]),(3, .cells [⟨.int .i64,c⟩,⟨.slice (.st yC),c2⟩]),(5, .cells [⟨.int .i64,w⟩,⟨.int .i64,w2⟩]),(7, .own 7),(8, .own 8)],(hs [] [] [] eK [] [] [] [] [] []),⟨.unit,()⟩,[],T.sites 100046⟩
def bA (out:Nat)(ag:Nat)(row:H2)(bO:List Int)(e:Bool)(c:Int)(c2:ji)(w:Int)(w2:Int)(eK:H2)(rest:List (Int×Unit)):Option ((Nat×Int×Int×Unit)×H2):=
 LL T B lf 100046 1 ⟨⟨155,[(8, .box 8 0),(7, .box 7 0),(5, .box 5 0),(4, .rv (.cv ⟨.ref 3,out⟩)),(3, .box 3 0),(2, .box 2 0)],[(10008, .box 8 0),(10007, .box 7 0),(10005, .box 5 0),(10004, .rv (.cv ⟨.ref 3,ag⟩)),(10003, .box 3 0),(10002, .box 2 0),(1000000000, .pd [⟨.fn,(197:Nat)⟩,⟨.bool,false⟩]),(1000000001, .pd [⟨.fn,(199:Nat)⟩,⟨.bool,true⟩])]⟩,[(7,⟨40, .qj (.st yT),row⟩),(8,⟨3, .int .i64,bO⟩)],[(2, .cells [⟨.fn,(197:Nat)⟩,⟨.bool,e⟩]),(3, .cells [⟨.int .i64,c⟩,⟨.slice (.st yC),c2⟩]),(5, .cells [⟨.int .i64,w⟩,⟨.int .i64,w2⟩]),(7, .own 7),(8, .own 8)],(hs [] [] [] eK [] [] [] [] [] []),⟨.unit,()⟩,[⟨[.int .i64],rest⟩],T.sites 100046⟩
def cY (out:Nat)(t:Int)(t2:Int)(t3:List Int)(w:Int)(w2:Int)(eK:H2):Option ((Nat×Int×Int×Unit)×H2):=
 LL T B lf 100046 3 ⟨⟨155,[(139,au t2),(138,au t),(137, .rv (.own 8)),(5, .box 5 0),(4, .rv (.cv ⟨.ref 3,out⟩))],gl⟩,[(8,⟨3, .int .i64,t3⟩)],[(5, .cells [⟨.int .i64,w⟩,⟨.int .i64,w2⟩])],(hs [] [] [] eK [] [] [] [] [] []),⟨.unit,()⟩,[],T.sites 100046⟩
def cZ (j:Int)(x:b6)(low:Int)(Zk:Bool)(out:Nat)(row:H2)(bO:List Int)(e:Bool)(c:Int)(c2:ji)(w:Int)(w2:Int)(eK:H2)(rest:List (Int×Unit)):Option ((Nat×Int×Int×Unit)×H2):=
 LL T B lf 100046 2 ⟨⟨155,[(13, .rv (.cv ⟨.bool,Zk⟩)),(12,au low),(11, .rv (.cv ⟨.slice (.st yT),x⟩)),(10,au j),(8, .box 8 0),(7, .box 7 0),(5, .box 5 0),(3, .box 3 0)],[(10008, .box 8 0),(10007, .box 7 0),(10005, .box 5 0),(10004, .rv (.cv ⟨.ref 3,out⟩)),(10003, .box 3 0),(10002, .box 2 0),(1000000000, .pd [⟨.fn,(197:Nat)⟩,⟨.bool,false⟩]),(1000000001, .pd [⟨.fn,(199:Nat)⟩,⟨.bool,true⟩])]⟩,[(7,⟨40, .qj (.st yT),row⟩),(8,⟨3, .int .i64,bO⟩)],[(2, .cells [⟨.fn,(197:Nat)⟩,⟨.bool,e⟩]),(3, .cells [⟨.int .i64,c⟩,⟨.slice (.st yC),c2⟩]),(5, .cells [⟨.int .i64,w⟩,⟨.int .i64,w2⟩]),(7, .own 7),(8, .own 8)],(hs [] [] [] eK [] [] [] [] [] []),⟨.unit,()⟩,[⟨[.int .i64],rest⟩],T.sites 100046⟩
def dS (c:hZ)(eK:H2):Option ((Nat×Int×Int×Unit)×H2):=cn T B lf 100146 (((),c),eK)
def cI (out:Nat)(t:Int)(t2:Int)(row:H2)(bO:List Int)(e:Bool)(c:Int)(c2:ji)(w:Int)(w2:Int)(eK:H2):Option ((Nat×Int×Int×Unit)×H2):=
 LL T B lf 100146 0 ⟨⟨155,[(28,au t2),(27,au t),(8, .box 8 0),(7, .box 7 0),(5, .box 5 0),(4, .rv (.cv ⟨.ref 3,out⟩)),(3, .box 3 0),(2, .box 2 0)],gl⟩,[(7,⟨40, .qj (.st yT),row⟩),(8,⟨3, .int .i64,bO⟩)],[(2, .cells [⟨.fn,(199:Nat)⟩,⟨.bool,e⟩]),(3, .cells [⟨.int .i64,c⟩,⟨.slice (.st yC),c2⟩]),(5, .cells [⟨.int .i64,w⟩,⟨.int .i64,w2⟩]),(7, .own 7),(8, .own 8)],(hs [] [] [] eK [] [] [] [] [] []),⟨.unit,()⟩,[],T.sites 100146⟩
def bp (out:Nat)(ag:Nat)(row:H2)(bO:List Int)(e:Bool)(c:Int)(c2:ji)(w:Int)(w2:Int)(eK:H2)(rest:List (Int×Unit)):Option ((Nat×Int×Int×Unit)×H2):=
 LL T B lf 100146 1 ⟨⟨155,[(8, .box 8 0),(7, .box 7 0),(5, .box 5 0),(4, .rv (.cv ⟨.ref 3,out⟩)),(3, .box 3 0),(2, .box 2 0)],[(10008, .box 8 0),(10007, .box 7 0),(10005, .box 5 0),(10004, .rv (.cv ⟨.ref 3,ag⟩)),(10003, .box 3 0),(10002, .box 2 0),(1000000000, .pd [⟨.fn,(197:Nat)⟩,⟨.bool,false⟩]),(1000000001, .pd [⟨.fn,(199:Nat)⟩,⟨.bool,true⟩])]⟩,[(7,⟨40, .qj (.st yT),row⟩),(8,⟨3, .int .i64,bO⟩)],[(2, .cells [⟨.fn,(199:Nat)⟩,⟨.bool,e⟩]),(3, .cells [⟨.int .i64,c⟩,⟨.slice (.st yC),c2⟩]),(5, .cells [⟨.int .i64,w⟩,⟨.int .i64,w2⟩]),(7, .own 7),(8, .own 8)],(hs [] [] [] eK [] [] [] [] [] []),⟨.unit,()⟩,[⟨[.int .i64],rest⟩],T.sites 100146⟩
def cJ (out:Nat)(t:Int)(t2:Int)(t3:List Int)(w:Int)(w2:Int)(eK:H2):Option ((Nat×Int×Int×Unit)×H2):=
 LL T B lf 100146 3 ⟨⟨155,[(139,au t2),(138,au t),(137, .rv (.own 8)),(5, .box 5 0),(4, .rv (.cv ⟨.ref 3,out⟩))],gl⟩,[(8,⟨3, .int .i64,t3⟩)],[(5, .cells [⟨.int .i64,w⟩,⟨.int .i64,w2⟩])],(hs [] [] [] eK [] [] [] [] [] []),⟨.unit,()⟩,[],T.sites 100146⟩
def cK (j:Int)(x:b6)(low:Int)(Zk:Bool)(out:Nat)(row:H2)(bO:List Int)(e:Bool)(c:Int)(c2:ji)(w:Int)(w2:Int)(eK:H2)(rest:List (Int×Unit)):Option ((Nat×Int×Int×Unit)×H2):=
 LL T B lf 100146 2 ⟨⟨155,[(13, .rv (.cv ⟨.bool,Zk⟩)),(12,au low),(11, .rv (.cv ⟨.slice (.st yT),x⟩)),(10,au j),(8, .box 8 0),(7, .box 7 0),(5, .box 5 0),(3, .box 3 0)],[(10008, .box 8 0),(10007, .box 7 0),(10005, .box 5 0),(10004, .rv (.cv ⟨.ref 3,out⟩)),(10003, .box 3 0),(10002, .box 2 0),(1000000000, .pd [⟨.fn,(197:Nat)⟩,⟨.bool,false⟩]),(1000000001, .pd [⟨.fn,(199:Nat)⟩,⟨.bool,true⟩])]⟩,[(7,⟨40, .qj (.st yT),row⟩),(8,⟨3, .int .i64,bO⟩)],[(2, .cells [⟨.fn,(199:Nat)⟩,⟨.bool,e⟩]),(3, .cells [⟨.int .i64,c⟩,⟨.slice (.st yC),c2⟩]),(5, .cells [⟨.int .i64,w⟩,⟨.int .i64,w2⟩]),(7, .own 7),(8, .own 8)],(hs [] [] [] eK [] [] [] [] [] []),⟨.unit,()⟩,[⟨[.int .i64],rest⟩],T.sites 100146⟩
def mh (c:hZ)(hp1:H1)(hp2:H2):Option (((Int×Nat×Unit)×Int)×H1×H2):=cn T B lf 100018 (c,(hp1,hp2))
def j8 (last:Int)(t:Int)(t2:Int)(c:Int)(c2:ji)(t3:Int)(t4:Nat)(out:Int)(ag:Nat)(hp1:H1)(hp2:H2):Option (((Int×Nat×Unit)×Int)×H1×H2):=
 LL T B lf 100018 0 (ms 107 [(35,au t2),(34,au t),(6, .box 6 0),(5,au last),(2, .box 2 0),(1, .box 1 0)] [(1, .cells [⟨.int .i64,c⟩,⟨.slice (.st yC),c2⟩]),(2, .cells [⟨.int .i64,t3⟩,⟨.ref 0,t4⟩]),(6, .cells [⟨.int .i64,out⟩,⟨.ref 1,ag⟩])] (hs [] hp1 hp2 [] [] [] [] [] [] []) 100018)
def fH (last:Int)(k:Int)(c:Int)(c2:ji)(t:Int)(t2:Nat)(out:Int)(ag:Nat)(hp1:H1)(hp2:H2):Option (((Int×Nat×Unit)×Int)×H1×H2):=
 LL T B lf 100018 1 (ms 107 [(11,au k),(6, .box 6 0),(5,au last),(2, .box 2 0),(1, .box 1 0)] [(1, .cells [⟨.int .i64,c⟩,⟨.slice (.st yC),c2⟩]),(2, .cells [⟨.int .i64,t⟩,⟨.ref 0,t2⟩]),(6, .cells [⟨.int .i64,out⟩,⟨.ref 1,ag⟩])] (hs [] hp1 hp2 [] [] [] [] [] [] []) 100018)
def j9 (last:Int)(k:Int)(t:b6)(t2:Int)(t3:Int)(c:Int)(c2:ji)(t4:Int)(t5:Nat)(out:Int)(ag:Nat)(hp1:H1)(hp2:H2):Option (((Int×Nat×Unit)×Int)×H1×H2):=
 LL T B lf 100018 2 (ms 107 [(80,au t3),(79,au t2),(78, .rv (.cv ⟨.slice (.st yT),t⟩)),(11,au k),(6, .box 6 0),(5,au last),(2, .box 2 0),(1, .box 1 0)] [(1, .cells [⟨.int .i64,c⟩,⟨.slice (.st yC),c2⟩]),(2, .cells [⟨.int .i64,t4⟩,⟨.ref 0,t5⟩]),(6, .cells [⟨.int .i64,out⟩,⟨.ref 1,ag⟩])] (hs [] hp1 hp2 [] [] [] [] [] [] []) 100018)
def kG (x:b6)(n:Int)(aD:H4):Option ((Nat)×H4):=cn T B lf 102038 ((x,n),aD)
def dg (x:b6)(out:Nat)(i:Int)(aD:H4):Option ((Nat)×H4):=
 LL T B lf 102038 0 (ms 28 [(6,au i),(5, .rv (.cv ⟨.ref 4,out⟩)),(0, .rv (.cv ⟨.slice (.st yT),x⟩))] [] (hs [] [] [] [] aD [] [] [] [] []) 102038)
def aC (v:Nat)(aD:H4):Option b6:=cn T B lf 100040 (v,aD)
def bR (v:Nat)(i:Int)(out:b6)(aD:H4):Option b6:=
 LL T B lf 100040 0 ⟨⟨26,[(4,au i),(3, .rv (.own 3)),(0, .rv (.cv ⟨.ref 4,v⟩))],gl⟩,[(3,⟨44, .st yT,out⟩)],[],[⟨42, .st yC,0,true,([]:H0)⟩,⟨42, .st yR,0,true,([]:H1)⟩,⟨44, .st yT,0,true,([]:H2)⟩,⟨58, .st yT,0,true,([]:H2)⟩,⟨3, .int .i64,0,false,aD⟩,⟨95, .st (.pair yH (.pair (.ref 6) (.pair (.ref 4) (.pair (.ref 7) yT)))),1,true,([]:List (Option (List (hZ×Nat×Nat×Nat×Int×Int×Unit))))⟩,⟨26, .qj (.int .i64),0,true,([]:List (Option H4))⟩,⟨4, .bool,0,true,([]:H7)⟩,⟨101, .st (.pair (.ref 4) (.pair (.str) (.unit))),0,true,([]:H8)⟩,⟨24, .st (.pair (.int .i64) (.pair (.slice (.st yC)) (.unit))),0,true,([]:H9)⟩],⟨.unit,()⟩,[],T.sites 100040⟩
def eo (s:b6)(f:Int):Option (Bool):=cn T B lf 100070 (s,f)
def eA (s:b6)(f:hZ×zqC):Option (Bool):=cn T B lf 100071 (s,f)
def iN (s:b6)(f:Int):Option (Int):=cn T B lf 100109 (s,f)
def bT (s:b6)(f:Int)(t:Int)(t2:Int):Option (Int):=
 LL T B lf 100109 0 (ms 19 [(8,au t2),(7,au t),(1, .fn 71 [.pd [⟨.int .i64,f⟩]]),(0, .rv (.cv ⟨.slice (.st yT),s⟩))] [] h0 100109)
def iO (s:b6)(f:hZ×zqC):Option (Int):=cn T B lf 100110 (s,f)
def bU (s:b6)(f:Int)(f2:ji)(f3:Int)(f4:ByteArray)(f5:b6)(t:Int)(t2:Int):Option (Int):=
 LL T B lf 100110 0 (ms 19 [(8,au t2),(7,au t),(1, .fn 72 [.pd [⟨.int .i64,f⟩,⟨.slice (.st yC),f2⟩], .pd [⟨.int .i64,f3⟩,⟨.str,f4⟩,⟨.slice (.st yT),f5⟩]]),(0, .rv (.cv ⟨.slice (.st yT),s⟩))] [] h0 100110)
end
end Go.Proofs.YtofjebmoebhiiaaGreatDoor.Ev
namespace Go.Proofs.YtofjebmoebhiiaaGreatDoor.Ev
open Go.Abs
noncomputable section
def rR (rS:ae dJ)(mi:ae eM)(UD:ae uU)(Cb:ae lH)(EU:ae eo)(EV:ae eA)(UE:ae uV)(Rr:ae pf)(t:ji)(t2:Int)(t3:Int)(c:Int)(c2:ji)(last:Bool)(V3:List Int)(V4:Bool)(V5:List Int):Option (Int):=
 bif (decide (t3<t2)) then
  (idx t t3).bind fun v0=>
  (mi v0.2.1).bind fun r1=>
  bif (decide (v0.1<0)) then
   some 1
  else
   bif (decide (v0.1>4)) then
    some 1
   else
    bif (!r1.2) then
     some 1
    else
     (UD v0.2.1).bind fun r2=>
     bif (!r2) then
      some 1
     else
      (Cb c v0.2.2.1).bind fun r3=>
      bif (r3 != 0) then
       some r3
      else
       (EU v0.2.2.1 t3).bind fun r4=>
       bif r4 then
        some 7
       else
        (EV v0.2.2.1 ((c,(c2,())),(v0.1,(v0.2.1,(v0.2.2.1,()))))).bind fun r5=>
        bif r5 then
         some 10
        else
         (UE (c,(c2,())) v0.2.2.1).bind fun r6=>
         bif (decide ((r6.length:Int)>0)) then
          some 11
         else
          bif (decide (t3>0)) then
           (Rr ((r1.1.1.1,(r1.1.1.2.1,())),((r1.1.2.1.1,(r1.1.2.1.2.1,())),())) ((last,(V3,())),((V4,(V5,())),()))).bind fun r7=>
           bif (decide (r7<0)) then
            some 6
           else
            rS t t2 (IntKind.wrap .i64 (t3+1)) c c2 r1.1.1.1 r1.1.1.2.1 r1.1.2.1.1 r1.1.2.1.2.1
          else
           rS t t2 (IntKind.wrap .i64 (t3+1)) c c2 r1.1.1.1 r1.1.1.2.1 r1.1.2.1.1 r1.1.2.1.2.1
 else
  some 0
theorem vS (t t2 t3 c c2 last V3 V4 V5):dJ t t2 t3 c c2 last V3 V4 V5=rR dJ eM uU lH eo eA uV pf t t2 t3 c c2 last V3 V4 V5:=(l1 41 0 _).trans (by kernel_rfl)
def EW (rS:ae dJ)(vT:ae mf)(c:hZ):Option (Int):=
 (vT c.1).bind fun r0=>
 bif (!r0) then
  some 8
 else
  bif (decide ((c.2.1.length:Int)>1024)) then
   some 3
  else
   rS c.2.1 (c.2.1.length:Int) 0 c.1 c.2.1 false ([]:List Int) false ([]:List Int)
theorem Jq (c):gF c=EW dJ mf c:=(e1 41 _).trans (by kernel_rfl)
def Ai (t:Int×Int×Unit)(t2:Int):Option (Bool):=
 some (decide (t.1≥t2))
theorem FG (t t2):s6 t t2=Ai t t2:=(e1 71 _).trans (by kernel_rfl)
def Aj (t:Int×Int×Unit)(t2:hZ)(t3:zqC):Option (Bool):=
 (idx t2.2.1 t.1).bind fun v0=>
 some (v0.1 != (IntKind.wrap .i64 (t3.1 - 1)))
theorem FH (t t2 t3):s7 t t2 t3=Aj t t2 t3:=(e1 72 _).trans (by kernel_rfl)
def yo (vU:ae fe)(nQ:ae je)(t:b6)(t2:Int)(t3:Int)(out:b6)(c:Int)(c2:ji):Option b6:=
 bif (decide (t3<t2)) then
  (idx t t3).bind fun v0=>
  (idx c2 v0.1).bind fun v1=>
  (nQ c out v0.2.1 v1.2.2.1).bind fun r2=>
  vU r2.1 t t2 (IntKind.wrap .i64 (t3+1)) c c2
 else
  some out
theorem D3 (t t2 t3 out c c2):mX t t2 t3 out c c2=yo fe je t t2 t3 out c c2:=(l1 73 0 _).trans (by kernel_rfl)
def lN (vU:ae fe)(nQ:ae je)(out:b6)(t:b6)(t2:Int)(t3:Int)(c:Int)(c2:ji):Option b6:=
 bif (decide (t3<t2)) then
  (idx t t3).bind fun v0=>
  (idx c2 v0.1).bind fun v1=>
  (nQ c out v0.2.1 v1.2.2.1).bind fun r2=>
  vU r2.1 t t2 (IntKind.wrap .i64 (t3+1)) c c2
 else
  some out
theorem nR (out t t2 t3 c c2):fe out t t2 t3 c c2=lN fe je out t t2 t3 c c2:=(l1 73 0 _).trans (by kernel_rfl)
def EX (PN:ae mX)(c:hZ)(x:b6):Option b6:=
 PN x (x.length:Int) 0 ([]:b6) c.1 c.2.1
theorem Jr (c x):uV c x=EX mX c x:=(e1 73 _).trans (by kernel_rfl)
end
end Go.Proofs.YtofjebmoebhiiaaGreatDoor.Ev
namespace Go.Proofs.YtofjebmoebhiiaaGreatDoor.Ev
open Go.Abs
noncomputable section
def HO (Ak:ae mc)(Al:ae me)(mi:ae eM)(Am:ae jL)(yp:ae iJ)(last:Int)(t:Int)(t2:Int)(c:Int)(c2:ji)(t3:Int)(t4:Nat)(out:Int)(ag:Nat)(hp1:H1):Option (hZ×Int):=
 bif (decide (t2<t)) then
  (idx c2 (IntKind.wrap .i64 (last - t2))).bind fun v0=>
  (mi v0.2.1).bind fun r1=>
  (Am ((r1.1.1.1,(r1.1.1.2.1,())),((r1.1.2.1.1,(r1.1.2.1.2.1,())),()))).bind fun r2=>
  (yp ((r2.1.1,(r2.1.2.1,())),((r2.2.1.1,(r2.2.1.2.1,())),()))).bind fun r3=>
  (af hp1 ag).bind fun v4=>
  (idx v4 t2).bind fun _=>
  (af hp1 ag).bind fun v5=>
  (v5[t2.toNat]?).bind fun v6=>
  let e7:H1:=(gK hp1 ag (v5.set t2.toNat ((IntKind.wrap .i64 (4 - v0.1)),(v6.2.1,(v6.2.2.1,())))))
  (af e7 ag).bind fun v8=>
  (idx v8 t2).bind fun _=>
  (af e7 ag).bind fun v9=>
  (v9[t2.toNat]?).bind fun v10=>
  let Te:H1:=(gK e7 ag (v9.set t2.toNat (v10.1,(r3,(v10.2.2.1,())))))
  Ak last t (IntKind.wrap .i64 (t2+1)) c c2 t3 t4 out ag Te
 else
  Al last last c c2 t3 t4 out ag hp1
theorem PO (last t t2 c c2 t3 t4 out ag hp1):mc last t t2 c c2 t3 t4 out ag hp1=HO mc me eM jL iJ last t t2 c c2 t3 t4 out ag hp1:=(l1 18 0 _).trans (by kernel_rfl)
def HP (Ru:ae s0)(last:Int)(k:Int)(c:Int)(c2:ji)(t:Int)(t2:Nat)(out:Int)(ag:Nat)(hp1:H1):Option (hZ×Int):=
 bif (decide (k≥0)) then
  (idx c2 k).bind fun v0=>
  Ru last k v0.2.2.1 (v0.2.2.1.length:Int) 0 c c2 t t2 out ag hp1
 else
  (MI (typed (hs [] hp1 [] [] [] [] [] [] [] []) yH (.rv (.agg [⟨.int .i64,out⟩,⟨.ref 1,ag⟩]))) (some 0)).bind fun v1=>
  some v1
theorem PQ (last k c c2 t t2 out ag hp1):me last k c c2 t t2 out ag hp1=HP s0 last k c c2 t t2 out ag hp1:=(l1 18 1 _).trans (by kernel_rfl)
def HQ (ng:ae fU)(Al:ae me)(last:Int)(k:Int)(t:b6)(t2:Int)(t3:Int)(c:Int)(c2:ji)(t4:Int)(t5:Nat)(out:Int)(ag:Nat)(hp1:H1):Option (hZ×Int):=
 bif (decide (t3<t2)) then
  (idx t t3).bind fun v0=>
  (af hp1 ag).bind fun v1=>
  (idx v1 (IntKind.wrap .i64 (last - v0.1))).bind fun _=>
  (af hp1 ag).bind fun v2=>
  (v2[(IntKind.wrap .i64 (last - v0.1)).toNat]?).bind fun v3=>
  let e4:b6:=([((IntKind.wrap .i64 (last - k)),(v0.2.1,()))]:b6)
  (af ([]:H2) v3.2.2.1).bind fun v5=>
  bif (aB 16 2 v5.length 1) then
  let e6:H2:=((c5 ([]:H2) v3.2.2.1)++[some (v5++e4)])
  let e7:Nat:=((c5 ([]:H2) v3.2.2.1).length+1:Nat)
  (af hp1 ag).bind fun v8=>
  (v8[(IntKind.wrap .i64 (last - v0.1)).toNat]?).bind fun v9=>
  let W6:H1:=(gK hp1 ag (v8.set (IntKind.wrap .i64 (last - v0.1)).toNat (v9.1,(v9.2.1,(e7,())))))
  ng last k t t2 (IntKind.wrap .i64 (t3+1)) c c2 t4 t5 out ag W6 e6
  else none
 else
  Al last (IntKind.wrap .i64 (k - 1)) c c2 t4 t5 out ag hp1
theorem PR (last k t t2 t3 c c2 t4 t5 out ag hp1):s0 last k t t2 t3 c c2 t4 t5 out ag hp1=HQ fU me last k t t2 t3 c c2 t4 t5 out ag hp1:=(l1 18 2 _).trans (by kernel_rfl)
def FI (ng:ae fU)(PS:ae qJ)(last:Int)(k:Int)(t:b6)(t2:Int)(t3:Int)(c:Int)(c2:ji)(t4:Int)(t5:Nat)(out:Int)(ag:Nat)(hp1:H1)(hp2:H2):Option (hZ×Int):=
 bif (decide (t3<t2)) then
  (idx t t3).bind fun v0=>
  (af hp1 ag).bind fun v1=>
  (idx v1 (IntKind.wrap .i64 (last - v0.1))).bind fun _=>
  (af hp1 ag).bind fun v2=>
  (v2[(IntKind.wrap .i64 (last - v0.1)).toNat]?).bind fun v3=>
  let e4:b6:=([((IntKind.wrap .i64 (last - k)),(v0.2.1,()))]:b6)
  (af hp2 v3.2.2.1).bind fun v5=>
  bif (aB 16 2 v5.length 1) then
  (af hp1 ag).bind fun v6=>
  (v6[(IntKind.wrap .i64 (last - v0.1)).toNat]?).bind fun v7=>
  let e8:H1:=(gK hp1 ag (v6.set (IntKind.wrap .i64 (last - v0.1)).toNat (v7.1,(v7.2.1,(((c5 hp2 v3.2.2.1).length+1:Nat),())))))
  ng last k t t2 (IntKind.wrap .i64 (t3+1)) c c2 t4 t5 out ag e8 ((c5 hp2 v3.2.2.1)++[some (v5++e4)])
  else none
 else
  PS last (IntKind.wrap .i64 (k - 1)) c c2 t4 t5 out ag hp1 hp2
theorem Oh (last k t t2 t3 c c2 t4 t5 out ag hp1 hp2):fU last k t t2 t3 c c2 t4 t5 out ag hp1 hp2=FI fU qJ last k t t2 t3 c c2 t4 t5 out ag hp1 hp2:=(l1 18 2 _).trans (by kernel_rfl)
def FJ (ng:ae fU)(last:Int)(k:Int)(c:Int)(c2:ji)(t:Int)(t2:Nat)(out:Int)(ag:Nat)(hp1:H1)(hp2:H2):Option (hZ×Int):=
 bif (decide (k≥0)) then
  (idx c2 k).bind fun v0=>
  ng last k v0.2.2.1 (v0.2.2.1.length:Int) 0 c c2 t t2 out ag hp1 hp2
 else
  (MI (typed (hs [] hp1 hp2 [] [] [] [] [] [] []) yH (.rv (.agg [⟨.int .i64,out⟩,⟨.ref 1,ag⟩]))) (some 0)).bind fun v1=>
  some v1
theorem Oi (last k c c2 t t2 out ag hp1 hp2):qJ last k c c2 t t2 out ag hp1 hp2=FJ fU last k c c2 t t2 out ag hp1 hp2:=(l1 18 1 _).trans (by kernel_rfl)
def Oj (Ak:ae mc)(mj:ae gF)(c:hZ):Option (hZ×Int):=
 (mj (c.1,(c.2.1,()))).bind fun r0=>
 bif (r0 != 0) then
  (MI (typed h0 yH (.rv (.agg [⟨.int .i64,(0:Int)⟩,⟨.ref 0,(0:Nat)⟩]))) (some r0)).bind fun v1=>
  some v1
 else
  let e2:Int:=(IntKind.wrap .i64 ((c.2.1.length:Int) - 1))
  bif (gL 48 (c.2.1.length:Int) (c.2.1.length:Int)) then
  let e3:H1:=(([]:H1)++[some (List.replicate (c.2.1.length:Int).toNat (0,(ByteArray.empty,((0:Nat),()))))])
  let e4:Nat:=(([]:H1).length+1:Nat)
  (af e3 e4).bind fun v5=>
  Ak e2 (v5.length:Int) 0 c.1 c.2.1 0 (0:Nat) c.1 e4 e3
  else none
theorem UF (c):tV c=Oj mc gF c:=(e1 18 _).trans (by kernel_rfl)
def FK (Rv:ae ta)(c:hZ):Option (b6×GI×Int):=
 (Rv (c.1,(c.2.1,())) ([]:H2)).bind fun r0=>
 (MI (typed (hs [] [] [] r0.2 [] [] [] [] [] []) (.slice (.st yT)) (.rv (.cv ⟨.ref 3,r0.1.1⟩))) (MI (some (r0.1.2.1.1,(r0.1.2.1.2.1,()))) (some r0.1.2.2))).bind fun v1=>
 some v1
theorem Ol (c):qK c=FK ta c:=(e1 20 _).trans (by kernel_rfl)
def L4 (PT:ae qN)(c:hZ):Option (b6×GI×Int):=
 (PT (c.1,(c.2.1,())) ([]:H2)).bind fun r0=>
 (MI (typed (hs [] [] [] r0.2 [] [] [] [] [] []) (.slice (.st yT)) (.rv (.cv ⟨.ref 3,r0.1.1⟩))) (MI (some (r0.1.2.1.1,(r0.1.2.1.2.1,()))) (some r0.1.2.2))).bind fun v1=>
 some v1
theorem Tw (c):zp c=L4 qN c:=(e1 24 _).trans (by kernel_rfl)
def xx (kH:ae eD)(On:ae slices_SortFunc)(l:Nat)(last:Int)(t:Nat)(t2:Int)(t3:Int)(t4:Int)(t5:Int)(w:Int)(w2:Int)(eK:H2):Option (b6×GI×Int):=
 bif (decide (t3<t2)) then
  (af eK t).bind fun v0=>
  (idx v0 t3).bind fun _=>
  (af eK t).bind fun v1=>
  (v1[t3.toNat]?).bind fun v2=>
  (af eK l).bind fun v3=>
  (idx v3 t3).bind fun _=>
  (af eK l).bind fun v4=>
  (v4[t3.toNat]?).bind fun v5=>
  let e6:H2:=(gK eK l (v4.set t3.toNat ((IntKind.wrap .i64 (last - v2.2.1)),((IntKind.wrap .i64 (last - v2.1)),()))))
  bif (decide (v2.2.1<0)) then
   (af e6 l).bind fun v7=>
   (idx v7 t3).bind fun _=>
   (af e6 l).bind fun v8=>
   (v8[t3.toNat]?).bind fun v9=>
   let W6:H2:=(gK e6 l (v8.set t3.toNat ((IntKind.wrap .i64 (last - v2.1)),((-1),()))))
   kH l last t t2 (IntKind.wrap .i64 (t3+1)) t4 t5 w w2 W6
  else
   kH l last t t2 (IntKind.wrap .i64 (t3+1)) t4 t5 w w2 e6
 else
  (On l eK).bind fun r11=>
  (MI (typed (hs [] [] [] r11.2 [] [] [] [] [] []) (.slice (.st yT)) (.rv (.cv ⟨.ref 3,l⟩))) (MI (some (w,(w2,()))) (some 0))).bind fun v12=>
  some v12
theorem Hd (l last t t2 t3 t4 t5 w w2 eK):eD l last t t2 t3 t4 t5 w w2 eK=xx eD slices_SortFunc l last t t2 t3 t4 t5 w w2 eK:=(l1 26 0 _).trans (by kernel_rfl)
def Cc (kH:ae eD)(He:ae tV)(nS:ae dS)(c:hZ):Option (b6×GI×Int):=
 (He (c.1,(c.2.1,()))).bind fun r0=>
 bif (r0.2 != 0) then
  some (([]:b6),(0,(0,())),r0.2)
 else
  (nS (r0.1.1,(r0.1.2.1,())) ([]:H2)).bind fun r1=>
  let e2:Int:=(IntKind.wrap .i64 ((c.2.1.length:Int) - 1))
  (af r1.2 r1.1.1).bind fun v3=>
  kH r1.1.1 e2 r1.1.1 (v3.length:Int) 0 0 0 r1.1.2.1 r1.1.2.2.1 r1.2
theorem K1 (c):mV c=Cc eD tV dS c:=(e1 26 _).trans (by kernel_rfl)
def D4 (c:hZ):Option hZ:=
 some (c.1,(c.2.1,()))
theorem MJ (c):pb c=D4 c:=(e1 196 _).trans (by kernel_rfl)
def vV (nT:ae dR)(t:Int)(t2:Int)(trace:List (Int×Unit)):Option (List (Int×Unit)):=
 bif (decide (t2<t)) then
  nT t (IntKind.wrap .i64 (t2+1)) (trace++[(t2,())])
 else
  some trace
theorem FL (t t2 trace):dR t t2 trace=vV dR t t2 trace:=(l1 197 0 _).trans (by kernel_rfl)
def AM (nT:ae dR)(t:hZ):Option (List (Int×Unit)):=
 nT (t.2.1.length:Int) 0 ([]:List (Int×Unit))
theorem Js (t):lM t=AM dR t:=(e1 197 _).trans (by kernel_rfl)
def Cd (c:hZ):Option hZ:=
 some (c.1,(c.2.1,()))
theorem K2 (c):nf c=Cd c:=(e1 198 _).trans (by kernel_rfl)
def u5 (iX:ae dx)(d:Int)(t:Int)(t2:ji)(trace:List (Int×Unit)):Option (List (Int×Unit)):=
 bif (decide (d≥0)) then
  iX d t2 (t2.length:Int) 0 t t2 trace
 else
  some trace
theorem EY (d t t2 trace):dw d t t2 trace=u5 dx d t t2 trace:=(l1 199 0 _).trans (by kernel_rfl)
def u6 (iX:ae dx)(ni:ae dw)(d:Int)(t:ji)(t2:Int)(t3:Int)(t4:Int)(t5:ji)(trace:List (Int×Unit)):Option (List (Int×Unit)):=
 bif (decide (t3<t2)) then
  (idx t t3).bind fun v0=>
  bif (v0.1==d) then
   iX d t t2 (IntKind.wrap .i64 (t3+1)) t4 t5 (trace++[(t3,())])
  else
   iX d t t2 (IntKind.wrap .i64 (t3+1)) t4 t5 trace
 else
  ni (IntKind.wrap .i64 (d - 1)) t4 t5 trace
theorem EZ (d t t2 t3 t4 t5 trace):dx d t t2 t3 t4 t5 trace=u6 dx dw d t t2 t3 t4 t5 trace:=(l1 199 1 _).trans (by kernel_rfl)
def zr (ni:ae dw)(t:hZ):Option (List (Int×Unit)):=
 ni 4 t.1 t.2.1 ([]:List (Int×Unit))
theorem Iv (t):km t=zr dw t:=(e1 199 _).trans (by kernel_rfl)
def HR (mj:ae gF)(Iw:ae jn)(c:hZ)(eK:H2):Option ((Nat×GI×Int)×H2):=
 (mj (c.1,(c.2.1,()))).bind fun r0=>
 bif (r0 != 0) then
  some (((0:Nat),(0,(0,())),r0),eK)
 else
  (Iw (c.1,(c.2.1,())) eK).bind fun r1=>
  some ((r1.1.1,(r1.1.2.1,(r1.1.2.2.1,())),(0:Int)),r1.2)
theorem PU (c eK):ta c eK=HR gF jn c eK:=(e1 100045 _).trans (by kernel_rfl)
def FM (mj:ae gF)(nS:ae dS)(c:hZ)(eK:H2):Option ((Nat×GI×Int)×H2):=
 (mj (c.1,(c.2.1,()))).bind fun r0=>
 bif (r0 != 0) then
  some (((0:Nat),(0,(0,())),r0),eK)
 else
  (nS (c.1,(c.2.1,())) eK).bind fun r1=>
  some ((r1.1.1,(r1.1.2.1,(r1.1.2.2.1,())),(0:Int)),r1.2)
theorem Oo (c eK):qN c eK=FM gF dS c eK:=(e1 100145 _).trans (by kernel_rfl)
def tb (ml:ae cX)(aP:ae bA)(Oq:ae pb)(K3:ae lM)(out:Nat)(t:Int)(t2:Int)(row:H2)(bO:List Int)(e:Bool)(c:Int)(c2:ji)(w:Int)(w2:Int)(eK:H2):Option ((Nat×Int×Int×Unit)×H2):=
 bif (decide (t2<t)) then
  (idx bO t2).bind fun _=>
  (bO[t2.toNat]?).bind fun v0=>
  ml out t (IntKind.wrap .i64 (t2+1)) row (bO.set t2.toNat (-2)) e c c2 w w2 eK
 else
  (Oq (c,(c2,()))).bind fun r1=>
  (K3 (r1.1,(r1.2.1,()))).bind fun r2=>
  aP out out row bO e c c2 w w2 eK r2
theorem DC (out t t2 row bO e c c2 w w2 eK):cX out t t2 row bO e c c2 w w2 eK=tb cX bA pb lM out t t2 row bO e c c2 w w2 eK:=(l1 100046 0 _).trans (by kernel_rfl)
def tc (iw:ae cY)(aP:ae bA)(ix:ae cZ)(qO:ae rO)(jw:ae ki)(out:Nat)(ag:Nat)(row:H2)(bO:List Int)(e:Bool)(c:Int)(c2:ji)(w:Int)(w2:Int)(eK:H2)(rest:List (Int×Unit)):Option ((Nat×Int×Int×Unit)×H2):=
 match rest with
 | []=>iw out (bO.length:Int) 0 bO w w2 eK
 |x0::x0s=>
  bif e then
   (idx row x0.1).bind fun _=>
   (row[x0.1.toNat]?).bind fun v1=>
   bif (!(Option.isNone v1)) then
    aP ag ag row bO e c c2 w (IntKind.wrap .i64 (w2+1)) eK x0s
   else
    (idx c2 x0.1).bind fun v2=>
    (qO v2.2.2.1).bind fun r3=>
    (jw r3).bind fun r4=>
    ix x0.1 r3 r4.1 r4.2 ag row bO e c c2 w w2 eK x0s
  else
   (idx c2 x0.1).bind fun v5=>
   (qO v5.2.2.1).bind fun r6=>
   (jw r6).bind fun r7=>
   ix x0.1 r6 r7.1 r7.2 ag row bO e c c2 w w2 eK x0s
theorem DD (out ag row bO e c c2 w w2 eK rest):bA out ag row bO e c c2 w w2 eK rest=tc cY bA cZ rO ki out ag row bO e c c2 w w2 eK rest:=(l1 100046 1 _).trans (by kernel_rfl)
def td (iw:ae cY)(out:Nat)(t:Int)(t2:Int)(t3:List Int)(w:Int)(w2:Int)(eK:H2):Option ((Nat×Int×Int×Unit)×H2):=
 bif (decide (t2<t)) then
  (idx t3 t2).bind fun _=>
  (t3[t2.toNat]?).bind fun v0=>
  bif (decide (v0>(-2))) then
   (af eK out).bind fun v1=>
   bif (aB 16 2 v1.length 1) then
   let e2:H2:=((c5 eK out)++[some (v1++([(t2,(v0,()))]:b6))])
   iw ((c5 eK out).length+1:Nat) t (IntKind.wrap .i64 (t2+1)) t3 w w2 e2
   else none
  else
   iw out t (IntKind.wrap .i64 (t2+1)) t3 w w2 eK
 else
  some ((out,(w,(w2,()))),eK)
theorem DE (out t t2 t3 w w2 eK):cY out t t2 t3 w w2 eK=td cY out t t2 t3 w w2 eK:=(l1 100046 3 _).trans (by kernel_rfl)
def te (ix:ae cZ)(aP:ae bA)(MK:ae B9)(Cf:ae s8)(nQ:ae je)(jw:ae ki)(j:Int)(x:b6)(low:Int)(Zk:Bool)(out:Nat)(row:H2)(bO:List Int)(e:Bool)(c:Int)(c2:ji)(w:Int)(w2:Int)(eK:H2)(rest:List (Int×Unit)):Option ((Nat×Int×Int×Unit)×H2):=
 bif Zk then
  (idx row low).bind fun _=>
  (row[low.toNat]?).bind fun v0=>
  bif (!(Option.isNone v0)) then
   (idx row low).bind fun _=>
   (row[low.toNat]?).bind fun v1=>
   let e2:Int:=(IntKind.wrap .i64 (((lst v1).length:Int) - 1))
   (idx (lst v1) e2).bind fun v3=>
   (MK c v3.2.1).bind fun r4=>
   let e5:Int:=(IntKind.wrap .i64 ((x.length:Int) - 1))
   (idx x e5).bind fun v6=>
   let e7:Int:=(IntKind.wrap .i64 ((IntKind.wrap .i64 (0 - v6.2.1))*r4.1))
   (Cf c e7).bind fun r8=>
   (nQ c x r8 (lst v1)).bind fun r9=>
   (jw r9.1).bind fun NF=>
   ix j r9.1 NF.1 NF.2 out row bO e c c2 (IntKind.wrap .i64 (w+1)) w2 eK rest
  else
   bif Zk then
    (idx row low).bind fun _=>
    (row[low.toNat]?).bind fun v11=>
    (zf [] (.qj (.st yT)) [⟨.slice (.st yT),x⟩]).bind fun v12=>
    (idx bO low).bind fun _=>
    (bO[low.toNat]?).bind fun v13=>
    aP out out (row.set low.toNat v12) (bO.set low.toNat j) e c c2 w w2 eK rest
   else
    (idx bO j).bind fun _=>
    (bO[j.toNat]?).bind fun v14=>
    bif (v14==(-2)) then
     (idx bO j).bind fun _=>
     (bO[j.toNat]?).bind fun v15=>
     aP out out row (bO.set j.toNat (-1)) e c c2 w w2 eK rest
    else
     aP out out row bO e c c2 w w2 eK rest
 else
  bif Zk then
   (idx row low).bind fun _=>
   (row[low.toNat]?).bind fun v16=>
   (zf [] (.qj (.st yT)) [⟨.slice (.st yT),x⟩]).bind fun v17=>
   (idx bO low).bind fun _=>
   (bO[low.toNat]?).bind fun v18=>
   aP out out (row.set low.toNat v17) (bO.set low.toNat j) e c c2 w w2 eK rest
  else
   (idx bO j).bind fun _=>
   (bO[j.toNat]?).bind fun v19=>
   bif (v19==(-2)) then
    (idx bO j).bind fun _=>
    (bO[j.toNat]?).bind fun v20=>
    aP out out row (bO.set j.toNat (-1)) e c c2 w w2 eK rest
   else
    aP out out row bO e c c2 w w2 eK rest
theorem DF (j x low Zk out row bO e c c2 w w2 eK rest):cZ j x low Zk out row bO e c c2 w w2 eK rest=te cZ bA B9 s8 je ki j x low Zk out row bO e c c2 w w2 eK rest:=(l1 100046 2 _).trans (by kernel_rfl)
def xy (ml:ae cX)(c:hZ)(eK:H2):Option ((Nat×Int×Int×Unit)×H2):=
 bif (gL 24 (c.2.1.length:Int) (c.2.1.length:Int)) then
 let e0:H2:=(List.replicate (c.2.1.length:Int).toNat (none:Option b6))
 bif (gL 8 (c.2.1.length:Int) (c.2.1.length:Int)) then
 let e1:List Int:=(List.replicate (c.2.1.length:Int).toNat 0)
 ml (0:Nat) (e1.length:Int) 0 e0 e1 false c.1 c.2.1 0 0 eK
 else none
 else none
theorem Hf (c eK):jn c eK=xy cX c eK:=(e1 100046 _).trans (by kernel_rfl)
def rZ (lq:ae cI)(aL:ae bp)(ML:ae nf)(Jt:ae km)(out:Nat)(t:Int)(t2:Int)(row:H2)(bO:List Int)(e:Bool)(c:Int)(c2:ji)(w:Int)(w2:Int)(eK:H2):Option ((Nat×Int×Int×Unit)×H2):=
 bif (decide (t2<t)) then
  (idx bO t2).bind fun _=>
  (bO[t2.toNat]?).bind fun v0=>
  lq out t (IntKind.wrap .i64 (t2+1)) row (bO.set t2.toNat (-2)) e c c2 w w2 eK
 else
  (ML (c,(c2,()))).bind fun r1=>
  (Jt (r1.1,(r1.2.1,()))).bind fun r2=>
  aL out out row bO e c c2 w w2 eK r2
theorem Cg (out t t2 row bO e c c2 w w2 eK):cI out t t2 row bO e c c2 w w2 eK=rZ cI bp nf km out t t2 row bO e c c2 w w2 eK:=(l1 100146 0 _).trans (by kernel_rfl)
def sc (gQ:ae cJ)(aL:ae bp)(gR:ae cK)(qO:ae rO)(jw:ae ki)(out:Nat)(ag:Nat)(row:H2)(bO:List Int)(e:Bool)(c:Int)(c2:ji)(w:Int)(w2:Int)(eK:H2)(rest:List (Int×Unit)):Option ((Nat×Int×Int×Unit)×H2):=
 match rest with
 | []=>gQ out (bO.length:Int) 0 bO w w2 eK
 |x0::x0s=>
  bif e then
   (idx row x0.1).bind fun _=>
   (row[x0.1.toNat]?).bind fun v1=>
   bif (!(Option.isNone v1)) then
    aL ag ag row bO e c c2 w (IntKind.wrap .i64 (w2+1)) eK x0s
   else
    (idx c2 x0.1).bind fun v2=>
    (qO v2.2.2.1).bind fun r3=>
    (jw r3).bind fun r4=>
    gR x0.1 r3 r4.1 r4.2 ag row bO e c c2 w w2 eK x0s
  else
   (idx c2 x0.1).bind fun v5=>
   (qO v5.2.2.1).bind fun r6=>
   (jw r6).bind fun r7=>
   gR x0.1 r6 r7.1 r7.2 ag row bO e c c2 w w2 eK x0s
theorem Ch (out ag row bO e c c2 w w2 eK rest):bp out ag row bO e c c2 w w2 eK rest=sc cJ bp cK rO ki out ag row bO e c c2 w w2 eK rest:=(l1 100146 1 _).trans (by kernel_rfl)
def se (gQ:ae cJ)(out:Nat)(t:Int)(t2:Int)(t3:List Int)(w:Int)(w2:Int)(eK:H2):Option ((Nat×Int×Int×Unit)×H2):=
 bif (decide (t2<t)) then
  (idx t3 t2).bind fun _=>
  (t3[t2.toNat]?).bind fun v0=>
  bif (decide (v0>(-2))) then
   (af eK out).bind fun v1=>
   bif (aB 16 2 v1.length 1) then
   let e2:H2:=((c5 eK out)++[some (v1++([(t2,(v0,()))]:b6))])
   gQ ((c5 eK out).length+1:Nat) t (IntKind.wrap .i64 (t2+1)) t3 w w2 e2
   else none
  else
   gQ out t (IntKind.wrap .i64 (t2+1)) t3 w w2 eK
 else
  some ((out,(w,(w2,()))),eK)
theorem Ci (out t t2 t3 w w2 eK):cJ out t t2 t3 w w2 eK=se cJ out t t2 t3 w w2 eK:=(l1 100146 3 _).trans (by kernel_rfl)
def sf (gR:ae cK)(aL:ae bp)(MK:ae B9)(Cf:ae s8)(nQ:ae je)(jw:ae ki)(j:Int)(x:b6)(low:Int)(Zk:Bool)(out:Nat)(row:H2)(bO:List Int)(e:Bool)(c:Int)(c2:ji)(w:Int)(w2:Int)(eK:H2)(rest:List (Int×Unit)):Option ((Nat×Int×Int×Unit)×H2):=
 bif Zk then
  (idx row low).bind fun _=>
  (row[low.toNat]?).bind fun v0=>
  bif (!(Option.isNone v0)) then
   (idx row low).bind fun _=>
   (row[low.toNat]?).bind fun v1=>
   let e2:Int:=(IntKind.wrap .i64 (((lst v1).length:Int) - 1))
   (idx (lst v1) e2).bind fun v3=>
   (MK c v3.2.1).bind fun r4=>
   let e5:Int:=(IntKind.wrap .i64 ((x.length:Int) - 1))
   (idx x e5).bind fun v6=>
   let e7:Int:=(IntKind.wrap .i64 ((IntKind.wrap .i64 (0 - v6.2.1))*r4.1))
   (Cf c e7).bind fun r8=>
   (nQ c x r8 (lst v1)).bind fun r9=>
   (jw r9.1).bind fun NF=>
   gR j r9.1 NF.1 NF.2 out row bO e c c2 (IntKind.wrap .i64 (w+1)) w2 eK rest
  else
   bif Zk then
    (idx row low).bind fun _=>
    (row[low.toNat]?).bind fun v11=>
    (zf [] (.qj (.st yT)) [⟨.slice (.st yT),x⟩]).bind fun v12=>
    (idx bO low).bind fun _=>
    (bO[low.toNat]?).bind fun v13=>
    aL out out (row.set low.toNat v12) (bO.set low.toNat j) e c c2 w w2 eK rest
   else
    (idx bO j).bind fun _=>
    (bO[j.toNat]?).bind fun v14=>
    bif (v14==(-2)) then
     (idx bO j).bind fun _=>
     (bO[j.toNat]?).bind fun v15=>
     aL out out row (bO.set j.toNat (-1)) e c c2 w w2 eK rest
    else
     aL out out row bO e c c2 w w2 eK rest
 else
  bif Zk then
   (idx row low).bind fun _=>
   (row[low.toNat]?).bind fun v16=>
   (zf [] (.qj (.st yT)) [⟨.slice (.st yT),x⟩]).bind fun v17=>
   (idx bO low).bind fun _=>
   (bO[low.toNat]?).bind fun v18=>
   aL out out (row.set low.toNat v17) (bO.set low.toNat j) e c c2 w w2 eK rest
  else
   (idx bO j).bind fun _=>
   (bO[j.toNat]?).bind fun v19=>
   bif (v19==(-2)) then
    (idx bO j).bind fun _=>
    (bO[j.toNat]?).bind fun v20=>
    aL out out row (bO.set j.toNat (-1)) e c c2 w w2 eK rest
   else
    aL out out row bO e c c2 w w2 eK rest
theorem Cj (j x low Zk out row bO e c c2 w w2 eK rest):cK j x low Zk out row bO e c c2 w w2 eK rest=sf cK bp B9 s8 je ki j x low Zk out row bO e c c2 w w2 eK rest:=(l1 100146 2 _).trans (by kernel_rfl)
def vW (lq:ae cI)(c:hZ)(eK:H2):Option ((Nat×Int×Int×Unit)×H2):=
 bif (gL 24 (c.2.1.length:Int) (c.2.1.length:Int)) then
 let e0:H2:=(List.replicate (c.2.1.length:Int).toNat (none:Option b6))
 bif (gL 8 (c.2.1.length:Int) (c.2.1.length:Int)) then
 let e1:List Int:=(List.replicate (c.2.1.length:Int).toNat 0)
 lq (0:Nat) (e1.length:Int) 0 e0 e1 true c.1 c.2.1 0 0 eK
 else none
 else none
theorem FN (c eK):dS c eK=vW cI c eK:=(e1 100146 _).trans (by kernel_rfl)
def tW (tX:ae j8)(tY:ae fH)(mi:ae eM)(Am:ae jL)(yp:ae iJ)(last:Int)(t:Int)(t2:Int)(c:Int)(c2:ji)(t3:Int)(t4:Nat)(out:Int)(ag:Nat)(hp1:H1)(hp2:H2):Option (((Int×Nat×Unit)×Int)×H1×H2):=
 bif (decide (t2<t)) then
  (idx c2 (IntKind.wrap .i64 (last - t2))).bind fun v0=>
  (mi v0.2.1).bind fun r1=>
  (Am ((r1.1.1.1,(r1.1.1.2.1,())),((r1.1.2.1.1,(r1.1.2.1.2.1,())),()))).bind fun r2=>
  (yp ((r2.1.1,(r2.1.2.1,())),((r2.2.1.1,(r2.2.1.2.1,())),()))).bind fun r3=>
  (af hp1 ag).bind fun v4=>
  (idx v4 t2).bind fun _=>
  (af hp1 ag).bind fun v5=>
  (v5[t2.toNat]?).bind fun v6=>
  let e7:H1:=(gK hp1 ag (v5.set t2.toNat ((IntKind.wrap .i64 (4 - v0.1)),(v6.2.1,(v6.2.2.1,())))))
  (af e7 ag).bind fun v8=>
  (idx v8 t2).bind fun _=>
  (af e7 ag).bind fun v9=>
  (v9[t2.toNat]?).bind fun v10=>
  let Te:H1:=(gK e7 ag (v9.set t2.toNat (v10.1,(r3,(v10.2.2.1,())))))
  tX last t (IntKind.wrap .i64 (t2+1)) c c2 t3 t4 out ag Te hp2
 else
  tY last last c c2 t3 t4 out ag hp1 hp2
theorem AN (last t t2 c c2 t3 t4 out ag hp1 hp2):j8 last t t2 c c2 t3 t4 out ag hp1 hp2=tW j8 fH eM jL iJ last t t2 c c2 t3 t4 out ag hp1 hp2:=(l1 100018 0 _).trans (by kernel_rfl)
def tZ (ua:ae j9)(last:Int)(k:Int)(c:Int)(c2:ji)(t:Int)(t2:Nat)(out:Int)(ag:Nat)(hp1:H1)(hp2:H2):Option (((Int×Nat×Unit)×Int)×H1×H2):=
 bif (decide (k≥0)) then
  (idx c2 k).bind fun v0=>
  ua last k v0.2.2.1 (v0.2.2.1.length:Int) 0 c c2 t t2 out ag hp1 hp2
 else
  (MI (typed (hs [] ([]) ([]) [] [] [] [] [] [] []) (.st (.pair (.int .i64) (.pair (.ref 1) (.unit)))) (.rv (.agg [⟨.int .i64,out⟩,⟨.ref 1,ag⟩]))) (some 0)).bind fun v1=>
  some (v1,(hp1,hp2))
theorem AO (last k c c2 t t2 out ag hp1 hp2):fH last k c c2 t t2 out ag hp1 hp2=tZ j9 last k c c2 t t2 out ag hp1 hp2:=(l1 100018 1 _).trans (by kernel_rfl)
def ub (ua:ae j9)(tY:ae fH)(last:Int)(k:Int)(t:b6)(t2:Int)(t3:Int)(c:Int)(c2:ji)(t4:Int)(t5:Nat)(out:Int)(ag:Nat)(hp1:H1)(hp2:H2):Option (((Int×Nat×Unit)×Int)×H1×H2):=
 bif (decide (t3<t2)) then
  (idx t t3).bind fun v0=>
  (af hp1 ag).bind fun v1=>
  (idx v1 (IntKind.wrap .i64 (last - v0.1))).bind fun _=>
  (af hp1 ag).bind fun v2=>
  (v2[(IntKind.wrap .i64 (last - v0.1)).toNat]?).bind fun v3=>
  let e4:b6:=([((IntKind.wrap .i64 (last - k)),(v0.2.1,()))]:b6)
  (af hp2 v3.2.2.1).bind fun v5=>
  bif (aB 16 2 v5.length 1) then
  (af hp1 ag).bind fun v6=>
  (v6[(IntKind.wrap .i64 (last - v0.1)).toNat]?).bind fun v7=>
  let e8:H1:=(gK hp1 ag (v6.set (IntKind.wrap .i64 (last - v0.1)).toNat (v7.1,(v7.2.1,(((c5 hp2 v3.2.2.1).length+1:Nat),())))))
  ua last k t t2 (IntKind.wrap .i64 (t3+1)) c c2 t4 t5 out ag e8 ((c5 hp2 v3.2.2.1)++[some (v5++e4)])
  else none
 else
  tY last (IntKind.wrap .i64 (k - 1)) c c2 t4 t5 out ag hp1 hp2
theorem AP (last k t t2 t3 c c2 t4 t5 out ag hp1 hp2):j9 last k t t2 t3 c c2 t4 t5 out ag hp1 hp2=ub j9 fH last k t t2 t3 c c2 t4 t5 out ag hp1 hp2:=(l1 100018 2 _).trans (by kernel_rfl)
def An (tX:ae j8)(mj:ae gF)(c:hZ)(hp1:H1)(hp2:H2):Option (((Int×Nat×Unit)×Int)×H1×H2):=
 (mj (c.1,(c.2.1,()))).bind fun r0=>
 bif (r0 != 0) then
  (MI (typed (hs [] ([]) ([]) [] [] [] [] [] [] []) (.st (.pair (.int .i64) (.pair (.ref 1) (.unit)))) (.rv (.agg [⟨.int .i64,(0:Int)⟩,⟨.ref 0,(0:Nat)⟩]))) (some r0)).bind fun v1=>
  some (v1,(hp1,hp2))
 else
  let e2:Int:=(IntKind.wrap .i64 ((c.2.1.length:Int) - 1))
  bif (gL 48 (c.2.1.length:Int) (c.2.1.length:Int)) then
  let e3:H1:=(hp1++[some (List.replicate (c.2.1.length:Int).toNat (0,(ByteArray.empty,((0:Nat),()))))])
  (af e3 (hp1.length+1:Nat)).bind fun v4=>
  tX e2 (v4.length:Int) 0 c.1 c.2.1 0 (0:Nat) c.1 (hp1.length+1:Nat) e3 hp2
  else none
theorem FO (c hp1 hp2):mh c hp1 hp2=An j8 gF c hp1 hp2:=(e1 100018 _).trans (by kernel_rfl)
end
end Go.Proofs.YtofjebmoebhiiaaGreatDoor.Ev
namespace Go.Proofs.YtofjebmoebhiiaaGreatDoor.Ev
open Go.Abs
noncomputable section
def qu (qv:ae gG)(p:Int)(c:b6)(t:b6)(t2:Int)(t3:Int):Option (Int):=
 bif (decide (t3<t2)) then
  (idx t t3).bind fun v0=>
  bif (decide (v0.1<0)) then
   some 1
  else
   bif (decide (v0.1≥1024)) then
    some 1
   else
    bif (decide (v0.2.1<1)) then
     some 1
    else
     bif (decide (v0.2.1≥p)) then
      some 1
     else
      bif (decide (t3>0)) then
       (idx c (IntKind.wrap .i64 (t3 - 1))).bind fun v1=>
       bif (decide (v0.1≤v1.1)) then
        some 6
       else
        qv p c t t2 (IntKind.wrap .i64 (t3+1))
      else
       qv p c t t2 (IntKind.wrap .i64 (t3+1))
 else
  some 0
theorem uc (p c t t2 t3):gG p c t t2 t3=qu gG p c t t2 t3:=(l1 69 0 _).trans (by kernel_rfl)
def Ck (qv:ae gG)(vT:ae mf)(p:Int)(c:b6):Option (Int):=
 (vT p).bind fun r0=>
 bif (!r0) then
  some 8
 else
  qv p c c (c.length:Int) 0
theorem HS (p c):lH p c=Ck gG mf p c:=(e1 69 _).trans (by kernel_rfl)
def Ot (c:b6):Option (Int×Bool):=
 bif ((c.length:Int)==0) then
  some (0,false)
 else
  let e0:Int:=(IntKind.wrap .i64 ((c.length:Int) - 1))
  (idx c e0).bind fun v1=>
  some (v1.1,true)
theorem UG (c):ki c=Ot c:=(e1 85 _).trans (by kernel_rfl)
def Hg (Ou:ae o9)(Cf:ae s8)(UH:ae uY)(p:Int)(a:b6)(k:Int)(b:b6):Option (b6×Int):=
 (Ou p ([a,b]:List b6)).bind fun r0=>
 bif (r0 != 0) then
  some (([]:b6),r0)
 else
  (Cf p k).bind fun r1=>
  (UH p a r1 b).bind fun r2=>
  some (r2,(0:Int))
theorem L5 (p a k b):je p a k b=Hg o9 s8 uY p a k b:=(e1 87 _).trans (by kernel_rfl)
def iP (qP:ae fh)(Cb:ae lH)(p:Int)(t:List b6)(t2:Int)(t3:Int):Option (Int):=
 bif (decide (t3<t2)) then
  (idx t t3).bind fun v0=>
  (Cb p v0).bind fun r1=>
  bif (r1 != 0) then
   some r1
  else
   qP p t t2 (IntKind.wrap .i64 (t3+1))
 else
  some 0
theorem kI (p t t2 t3):fh p t t2 t3=iP fh lH p t t2 t3:=(l1 122 0 _).trans (by kernel_rfl)
def vX (qP:ae fh)(p:Int)(l:List b6):Option (Int):=
 qP p l (l.length:Int) 0
theorem Cm (p l):o9 p l=vX fh p l:=(e1 122 _).trans (by kernel_rfl)
def rT (rU:ae iL)(row:b6)(p:Int)(k:Int)(rest:List (Int×GI×Unit)):Option b6:=
 match rest with
 | []=>some row
 |x0::x0s=>
  let e1:Int:=(IntKind.wrap .i64 (x0.2.1.1+(IntKind.wrap .i64 (k*x0.2.1.2.1))))
  bif (!(p==0)) then
  bif ((e1.tmod p) != 0) then
   let e2:b6:=([(x0.1,((e1.tmod p),()))]:b6)
   bif (aB 16 2 row.length 1) then
   rU (row++e2) p k x0s
   else none
  else
   rU row p k x0s
  else none
theorem vY (row p k rest):iL row p k rest=rT iL row p k rest:=(l1 123 0 _).trans (by kernel_rfl)
def E0 (rU:ae iL)(Rw:ae s9)(Ov:ae pa)(p:Int)(a:b6)(k:Int)(b:b6):Option b6:=
 (Rw a b).bind fun r0=>
 (Ov r0.1 r0.2).bind fun r1=>
 rU ([]:b6) p k r1
theorem Ju (p a k b):uY p a k b=E0 iL s9 pa p a k b:=(e1 123 _).trans (by kernel_rfl)
def Ao (a:b6)(b:b6):Option (b6×b6):=
 some (a,b)
theorem FP (a b):s9 a b=Ao a b:=(e1 155 _).trans (by kernel_rfl)
def cW (aq:ae dQ)(t:b6)(t2:b6)(trace:List (Int×GI×Unit)):Option (List (Int×GI×Unit)):=
 bif (decide ((t.length:Int)>0)) then
  bif ((t2.length:Int)==0) then
   (idx t 0).bind fun v0=>
   (idx t 0).bind fun v1=>
   bif (c7 t.length 1 (t.length:Int)) then
   let e2:List (Int×GI×Unit):=(trace++[(v0.1,((v1.2.1,(0,())),()))])
   aq (cut t 1 (t.length:Int)) t2 e2
   else none
  else
   bif (decide ((t.length:Int)>0)) then
    (idx t 0).bind fun v3=>
    (idx t2 0).bind fun v4=>
    bif (decide (v3.1<v4.1)) then
     (idx t 0).bind fun v5=>
     (idx t 0).bind fun v6=>
     bif (c7 t.length 1 (t.length:Int)) then
     let e7:List (Int×GI×Unit):=(trace++[(v5.1,((v6.2.1,(0,())),()))])
     aq (cut t 1 (t.length:Int)) t2 e7
     else none
    else
     bif ((t.length:Int)==0) then
      (idx t2 0).bind fun v8=>
      (idx t2 0).bind fun v9=>
      bif (c7 t2.length 1 (t2.length:Int)) then
      let W6:List (Int×GI×Unit):=(trace++[(v8.1,((0,(v9.2.1,())),()))])
      aq t (cut t2 1 (t2.length:Int)) W6
      else none
     else
      (idx t2 0).bind fun v11=>
      (idx t 0).bind fun v12=>
      bif (decide (v11.1<v12.1)) then
       (idx t2 0).bind fun v13=>
       (idx t2 0).bind fun v14=>
       bif (c7 t2.length 1 (t2.length:Int)) then
       let e15:List (Int×GI×Unit):=(trace++[(v13.1,((0,(v14.2.1,())),()))])
       aq t (cut t2 1 (t2.length:Int)) e15
       else none
      else
       (idx t 0).bind fun v16=>
       (idx t 0).bind fun v17=>
       (idx t2 0).bind fun v18=>
       bif (c7 t.length 1 (t.length:Int)) then
       bif (c7 t2.length 1 (t2.length:Int)) then
       let e19:List (Int×GI×Unit):=(trace++[(v16.1,((v17.2.1,(v18.2.1,())),()))])
       aq (cut t 1 (t.length:Int)) (cut t2 1 (t2.length:Int)) e19
       else none
       else none
   else
    bif ((t.length:Int)==0) then
     (idx t2 0).bind fun v20=>
     (idx t2 0).bind fun v21=>
     bif (c7 t2.length 1 (t2.length:Int)) then
     let e22:List (Int×GI×Unit):=(trace++[(v20.1,((0,(v21.2.1,())),()))])
     aq t (cut t2 1 (t2.length:Int)) e22
     else none
    else
     (idx t2 0).bind fun v23=>
     (idx t 0).bind fun v24=>
     bif (decide (v23.1<v24.1)) then
      (idx t2 0).bind fun v25=>
      (idx t2 0).bind fun v26=>
      bif (c7 t2.length 1 (t2.length:Int)) then
      let e27:List (Int×GI×Unit):=(trace++[(v25.1,((0,(v26.2.1,())),()))])
      aq t (cut t2 1 (t2.length:Int)) e27
      else none
     else
      (idx t 0).bind fun v28=>
      (idx t 0).bind fun v29=>
      (idx t2 0).bind fun v30=>
      bif (c7 t.length 1 (t.length:Int)) then
      bif (c7 t2.length 1 (t2.length:Int)) then
      let e31:List (Int×GI×Unit):=(trace++[(v28.1,((v29.2.1,(v30.2.1,())),()))])
      aq (cut t 1 (t.length:Int)) (cut t2 1 (t2.length:Int)) e31
      else none
      else none
 else
  bif (decide ((t2.length:Int)>0)) then
   bif ((t2.length:Int)==0) then
    (idx t 0).bind fun v32=>
    (idx t 0).bind fun v33=>
    bif (c7 t.length 1 (t.length:Int)) then
    let e34:List (Int×GI×Unit):=(trace++[(v32.1,((v33.2.1,(0,())),()))])
    aq (cut t 1 (t.length:Int)) t2 e34
    else none
   else
    bif (decide ((t.length:Int)>0)) then
     (idx t 0).bind fun v35=>
     (idx t2 0).bind fun v36=>
     bif (decide (v35.1<v36.1)) then
      (idx t 0).bind fun v37=>
      (idx t 0).bind fun v38=>
      bif (c7 t.length 1 (t.length:Int)) then
      let e39:List (Int×GI×Unit):=(trace++[(v37.1,((v38.2.1,(0,())),()))])
      aq (cut t 1 (t.length:Int)) t2 e39
      else none
     else
      bif ((t.length:Int)==0) then
       (idx t2 0).bind fun v40=>
       (idx t2 0).bind fun v41=>
       bif (c7 t2.length 1 (t2.length:Int)) then
       let e42:List (Int×GI×Unit):=(trace++[(v40.1,((0,(v41.2.1,())),()))])
       aq t (cut t2 1 (t2.length:Int)) e42
       else none
      else
       (idx t2 0).bind fun v43=>
       (idx t 0).bind fun v44=>
       bif (decide (v43.1<v44.1)) then
        (idx t2 0).bind fun v45=>
        (idx t2 0).bind fun v46=>
        bif (c7 t2.length 1 (t2.length:Int)) then
        let e47:List (Int×GI×Unit):=(trace++[(v45.1,((0,(v46.2.1,())),()))])
        aq t (cut t2 1 (t2.length:Int)) e47
        else none
       else
        (idx t 0).bind fun v48=>
        (idx t 0).bind fun v49=>
        (idx t2 0).bind fun v50=>
        bif (c7 t.length 1 (t.length:Int)) then
        bif (c7 t2.length 1 (t2.length:Int)) then
        let e51:List (Int×GI×Unit):=(trace++[(v48.1,((v49.2.1,(v50.2.1,())),()))])
        aq (cut t 1 (t.length:Int)) (cut t2 1 (t2.length:Int)) e51
        else none
        else none
    else
     bif ((t.length:Int)==0) then
      (idx t2 0).bind fun v52=>
      (idx t2 0).bind fun v53=>
      bif (c7 t2.length 1 (t2.length:Int)) then
      let e54:List (Int×GI×Unit):=(trace++[(v52.1,((0,(v53.2.1,())),()))])
      aq t (cut t2 1 (t2.length:Int)) e54
      else none
     else
      (idx t2 0).bind fun v55=>
      (idx t 0).bind fun v56=>
      bif (decide (v55.1<v56.1)) then
       (idx t2 0).bind fun v57=>
       (idx t2 0).bind fun v58=>
       bif (c7 t2.length 1 (t2.length:Int)) then
       let e59:List (Int×GI×Unit):=(trace++[(v57.1,((0,(v58.2.1,())),()))])
       aq t (cut t2 1 (t2.length:Int)) e59
       else none
      else
       (idx t 0).bind fun v60=>
       (idx t 0).bind fun v61=>
       (idx t2 0).bind fun v62=>
       bif (c7 t.length 1 (t.length:Int)) then
       bif (c7 t2.length 1 (t2.length:Int)) then
       let e63:List (Int×GI×Unit):=(trace++[(v60.1,((v61.2.1,(v62.2.1,())),()))])
       aq (cut t 1 (t.length:Int)) (cut t2 1 (t2.length:Int)) e63
       else none
       else none
  else
   some trace
theorem dy (t t2 trace):dQ t t2 trace=cW dQ t t2 trace:=(l1 171 0 _).trans (by kernel_rfl)
def vZ (aq:ae dQ)(t:b6)(t2:b6):Option (List (Int×GI×Unit)):=
 aq t t2 ([]:List (Int×GI×Unit))
theorem Cn (t t2):pa t t2=vZ dQ t t2:=(e1 171 _).trans (by kernel_rfl)
end
end Go.Proofs.YtofjebmoebhiiaaGreatDoor.Ev
namespace Go.Proofs.YtofjebmoebhiiaaGreatDoor.Ev
open Go.Abs
noncomputable section
def tJ (pc:ae jM)(p:Int)(t:Int):Option (Bool):=
 bif (decide (t<16)) then
  bif (decide (t>1)) then
   bif (!(t==0)) then
   bif ((p.tmod t)==0) then
    bif (p != t) then
     some false
    else
     pc p (IntKind.wrap .i64 (t+1))
   else
    pc p (IntKind.wrap .i64 (t+1))
   else none
  else
   pc p (IntKind.wrap .i64 (t+1))
 else
  bif (decide (p>1)) then
   some (decide (p≤251))
  else
   some false
theorem yq (p t):jM p t=tJ jM p t:=(l1 67 0 _).trans (by kernel_rfl)
def Hh (pc:ae jM)(p:Int):Option (Bool):=
 pc p 0
theorem L6 (p):mf p=Hh jM p:=(e1 67 _).trans (by kernel_rfl)
def Tx (PW:ae Hc)(lO:ae ed)(Jv:ae kj)(p:Int)(a:Int):Option (Int×Int):=
 (PW p).bind fun r0=>
 bif (r0.2 != 0) then
  some (0,r0.2)
 else
  (lO r0.1 a).bind fun r1=>
  bif (r1==0) then
   some (0,(9:Int))
  else
   (Jv r0.1 a).bind fun r2=>
   some (r2,(0:Int))
theorem Zl (p a):B9 p a=Tx Hc ed kj p a:=(e1 86 _).trans (by kernel_rfl)
def MM (PW:ae Hc)(lO:ae ed)(p:Int)(a:Int):Option (Int):=
 (PW p).bind fun r0=>
 bif (r0.2 != 0) then
  some 0
 else
  (lO r0.1 a).bind fun r1=>
  some r1
theorem QV (p a):s8 p a=MM Hc ed p a:=(e1 88 _).trans (by kernel_rfl)
def PX (vT:ae mf)(p:Int):Option (Int×Int):=
 (vT p).bind fun r0=>
 bif (!r0) then
  some (0,(8:Int))
 else
  some (p,(0:Int))
theorem Tz (p):Hc p=PX mf p:=(e1 119 _).trans (by kernel_rfl)
def wa (f:Int)(a:Int):Option (Int):=
 bif (!(f==0)) then
 bif (!(f==0)) then
 some ((IntKind.wrap .i64 ((a.tmod f)+f)).tmod f)
 else none
 else none
theorem Co (f a):ed f a=wa f a:=(e1 120 _).trans (by kernel_rfl)
def zt (MN:ae nb)(f:Int)(a:Int):Option (Int):=
 (MN f a (IntKind.wrap .i64 (f - 2))).bind fun r0=>
 some r0
theorem Ix (f a):kj f a=zt nb f a:=(e1 121 _).trans (by kernel_rfl)
def xz (kJ:ae eI)(f:Int)(n:Int)(out:Int)(base:Int):Option (Int):=
 bif (decide (n>0)) then
  bif ((n.tmod 2)==1) then
   bif (!(f==0)) then
   bif (!(f==0)) then
   kJ f (IntKind.wrap .i64 (n.tdiv 2)) ((IntKind.wrap .i64 (out*base)).tmod f) ((IntKind.wrap .i64 (base*base)).tmod f)
   else none
   else none
  else
   bif (!(f==0)) then
   kJ f (IntKind.wrap .i64 (n.tdiv 2)) out ((IntKind.wrap .i64 (base*base)).tmod f)
   else none
 else
  some out
theorem Hi (f n out base):eI f n out base=xz eI f n out base:=(l1 154 0 _).trans (by kernel_rfl)
def Cq (kJ:ae eI)(lO:ae ed)(f:Int)(a:Int)(n:Int):Option (Int):=
 (lO f a).bind fun r0=>
 kJ f n 1 r0
theorem K4 (f a n):nb f a n=Cq eI ed f a n:=(e1 154 _).trans (by kernel_rfl)
end
end Go.Proofs.YtofjebmoebhiiaaGreatDoor.Ev
namespace Go.Proofs.YtofjebmoebhiiaaGreatDoor.Ev
open Go.Abs
noncomputable section
def yU (UI:ae uW)(TA:ae FC)(tf:ae yk)(yr:ae iK)(lD:ae fQ)(Rx:ae pg)(a:ByteArray):Option (((Bool×(List Int)×Unit)×(Bool×(List Int)×Unit)×Unit)×Bool):=
 (UI a (bs [47])).bind fun r0=>
 (TA r0.1).bind fun r1=>
 bif (!r1.2) then
  (tf 1).bind fun r2=>
  some (((r1.1.1,(r1.1.2.1,())),((r2.1,(r2.2.1,())),())),r1.2)
 else
  bif (!r0.2.2) then
   (tf 1).bind fun r3=>
   some (((r1.1.1,(r1.1.2.1,())),((r3.1,(r3.2.1,())),())),r1.2)
  else
   (TA r0.2.1).bind fun r4=>
   bif (!r4.2) then
    some (((false,(([]:List Int),())),((false,(([]:List Int),())),())),false)
   else
    (yr (r1.1.1,(r1.1.2.1,()))).bind fun r5=>
    bif (r5==0) then
     some (((false,(([]:List Int),())),((false,(([]:List Int),())),())),false)
    else
     (tf 1).bind fun r6=>
     (lD (r4.1.1,(r4.1.2.1,())) (r6.1,(r6.2.1,()))).bind fun r7=>
     bif (decide (r7≤0)) then
      some (((false,(([]:List Int),())),((false,(([]:List Int),())),())),false)
     else
      (Rx (r1.1.1,(r1.1.2.1,())) (r4.1.1,(r4.1.2.1,()))).bind fun r8=>
      (tf 1).bind fun r9=>
      (lD (r8.1,(r8.2.1,())) (r9.1,(r9.2.1,()))).bind fun NF=>
      bif (NF != 0) then
       some (((false,(([]:List Int),())),((false,(([]:List Int),())),())),false)
      else
       some (((r1.1.1,(r1.1.2.1,())),((r4.1.1,(r4.1.2.1,())),())),true)
theorem Ct (a):eM a=yU uW FC yk iK fQ pg a:=(e1 42 _).trans (by kernel_rfl)
def Ap (Ry:ae ph)(a:(Bool×(List Int)×Unit)×(Bool×(List Int)×Unit)×Unit):Option ((Bool×(List Int)×Unit)×(Bool×(List Int)×Unit)×Unit):=
 (Ry (a.1.1,(a.1.2.1,()))).bind fun r0=>
 some ((r0.1,(r0.2.1,())),((a.2.1.1,(a.2.1.2.1,())),()))
theorem FQ (a):jL a=Ap ph a:=(e1 43 _).trans (by kernel_rfl)
def yt (tK:ae jO)(tf:ae yk)(lD:ae fQ)(yv:ae mY)(a:(Bool×(List Int)×Unit)×(Bool×(List Int)×Unit)×Unit):Option (ByteArray):=
 (tK ((a.1.1,(a.1.2.1,())),((a.2.1.1,(a.2.1.2.1,())),()))).bind fun r0=>
 (tf 1).bind fun r1=>
 (lD (r0.1,(r0.2.1,())) (r1.1,(r1.2.1,()))).bind fun r2=>
 bif (r2 != 0) then
  (yv (a.1.1,(a.1.2.1,()))).bind fun r3=>
  bif (Nat.ble (r3.size+(bs [47]).size) 9223372036854775807) then
  (yv (r0.1,(r0.2.1,()))).bind fun r4=>
  bif (Nat.ble ((r3++(bs [47])).size+r4.size) 9223372036854775807) then
  some ((r3++(bs [47]))++r4)
  else none
  else none
 else
  (yv (a.1.1,(a.1.2.1,()))).bind fun r5=>
  some r5
theorem D5 (a):iJ a=yt jO yk fQ mY a:=(e1 44 _).trans (by kernel_rfl)
def Aq (tK:ae jO)(HU:ae pk)(lD:ae fQ)(a:(Bool×(List Int)×Unit)×(Bool×(List Int)×Unit)×Unit)(b:(Bool×(List Int)×Unit)×(Bool×(List Int)×Unit)×Unit):Option (Int):=
 (tK ((b.1.1,(b.1.2.1,())),((b.2.1.1,(b.2.1.2.1,())),()))).bind fun r0=>
 (HU (a.1.1,(a.1.2.1,())) (r0.1,(r0.2.1,()))).bind fun r1=>
 (tK ((a.1.1,(a.1.2.1,())),((a.2.1.1,(a.2.1.2.1,())),()))).bind fun r2=>
 (HU (b.1.1,(b.1.2.1,())) (r2.1,(r2.2.1,()))).bind fun r3=>
 (lD (r1.1,(r1.2.1,())) (r3.1,(r3.2.1,()))).bind fun r4=>
 some r4
theorem FR (a b):pf a b=Aq jO pk fQ a b:=(e1 74 _).trans (by kernel_rfl)
def yV (E1:ae nI)(wb:ae jf)(s:ByteArray)(neg:Bool)(ET:Int)(d:List Int)(t:Bool)(t2:List Int):Option ((Bool×(List Int)×Unit)×Bool):=
 bif (decide (ET>0)) then
  let e0:Int:=(bif decide ((IntKind.wrap .i64 (ET - 9))>0) then (IntKind.wrap .i64 (ET - 9)) else 0)
  bif (c7 s.size e0 ET) then
  bif (Nat.ble (s.extract e0.toNat ET.toNat).size 140737488355328) then
  let e1:Int:=((bytesOf (s.extract e0.toNat ET.toNat)).length:Int)
  E1 s neg ET 0 (bytesOf (s.extract e0.toNat ET.toNat)) e1 0 d t t2
  else none
  else none
 else
  (wb neg d).bind fun r2=>
  some ((r2.1,(r2.2.1,())),true)
theorem Cu (s neg ET d t t2):jN s neg ET d t t2=yV nI jf s neg ET d t t2:=(l1 76 0 _).trans (by kernel_rfl)
def yW (E1:ae nI)(yX:ae jN)(s:ByteArray)(neg:Bool)(ET:Int)(x:Int)(t:List Int)(t2:Int)(t3:Int)(d:List Int)(t4:Bool)(t5:List Int):Option ((Bool×(List Int)×Unit)×Bool):=
 bif (decide (t3<t2)) then
  (idx t t3).bind fun v0=>
  bif (decide (v0<48)) then
   some ((false,(([]:List Int),())),false)
  else
   bif (decide (v0>57)) then
    some ((false,(([]:List Int),())),false)
   else
    let e1:Int:=(IntKind.wrap .u32 (IntKind.wrap .u8 (v0 - 48)))
    let e2:Int:=(IntKind.wrap .u32 ((IntKind.wrap .u32 (10*x))+e1))
    E1 s neg ET e2 t t2 (IntKind.wrap .i64 (t3+1)) d t4 t5
 else
  bif (aB 4 1 d.length 1) then
  yX s neg (IntKind.wrap .i64 (ET - 9)) (d++([x]:List Int)) t4 t5
  else none
theorem Cv (s neg ET x t t2 t3 d t4 t5):nI s neg ET x t t2 t3 d t4 t5=yW nI jN s neg ET x t t2 t3 d t4 t5:=(l1 76 1 _).trans (by kernel_rfl)
def MO (yX:ae jN)(K5:ae iT)(a:ByteArray):Option ((Bool×(List Int)×Unit)×Bool):=
 (K5 a (bs [45])).bind fun r0=>
 bif (r0.1.toList==ByteArray.empty.toList) then
  some ((false,(([]:List Int),())),false)
 else
  (Af r0.1 0).bind fun v1=>
  bif (v1==48) then
   bif (decide ((r0.1.size:Int)>1)) then
    some ((false,(([]:List Int),())),false)
   else
    bif r0.2 then
     some ((false,(([]:List Int),())),false)
    else
     yX r0.1 r0.2 (r0.1.size:Int) ([]:List Int) false ([]:List Int)
  else
   yX r0.1 r0.2 (r0.1.size:Int) ([]:List Int) false ([]:List Int)
theorem QW (a):FC a=MO jN iT a:=(e1 76 _).trans (by kernel_rfl)
def D6 (D7:ae uX)(u:Int)(neg:Bool)(d:List Int)(t:Bool)(t2:List Int):Option (Bool×(List Int)×Unit):=
 bif (decide (u>0)) then
  let e0:List Int:=([(IntKind.wrap .u32 (u.tmod 1000000000))]:List Int)
  bif (aB 4 1 d.length 1) then
  D7 (IntKind.wrap .u64 (u.tdiv 1000000000)) neg (d++e0) t t2
  else none
 else
  some (neg,(d,()))
theorem Hj (u neg d t t2):uX u neg d t t2=D6 uX u neg d t t2:=(l1 77 0 _).trans (by kernel_rfl)
def TB (D7:ae uX)(n:Int):Option (Bool×(List Int)×Unit):=
 bif (decide (n<0)) then
  D7 (IntKind.wrap .u64 (0 - (IntKind.wrap .u64 n))) (decide (n<0)) ([]:List Int) false ([]:List Int)
 else
  D7 (IntKind.wrap .u64 n) (decide (n<0)) ([]:List Int) false ([]:List Int)
theorem V6 (n):yk n=TB uX n:=(e1 77 _).trans (by kernel_rfl)
def yw (a:Bool×(List Int)×Unit):Option (Int):=
 bif ((a.2.1.length:Int)==0) then
  some 0
 else
  bif a.1 then
   some (-1)
  else
   some 1
theorem D8 (a):iK a=yw a:=(e1 78 _).trans (by kernel_rfl)
def Ar (Hk:ae zq)(a:Bool×(List Int)×Unit)(b:Bool×(List Int)×Unit):Option (Int):=
 bif (!(a.1==b.1)) then
  bif a.1 then
   some (-1)
  else
   some 1
 else
  bif a.1 then
   (Hk b.2.1 a.2.1).bind fun r0=>
   some r0
  else
   (Hk a.2.1 b.2.1).bind fun r1=>
   some r1
theorem FT (a b):fQ a b=Ar zq a b:=(e1 79 _).trans (by kernel_rfl)
def ud (nU:ae eg)(TC:ae FE)(Zm:ae FD)(tf:ae yk)(QX:ae yl)(qQ:ae mZ)(x:List Int)(y:List Int)(t:Bool)(t2:List Int):Option (Bool×(List Int)×Unit):=
 bif (decide ((y.length:Int)>0)) then
  bif (decide ((x.length:Int)≤2)) then
   bif (decide ((y.length:Int)≤2)) then
    (TC x).bind fun r0=>
    (TC y).bind fun r1=>
    (Zm r0 r1).bind fun r2=>
    (tf r2).bind fun r3=>
    some (r3.1,(r3.2.1,()))
   else
    (QX x y).bind fun r4=>
    (qQ r4.2).bind fun r5=>
    nU y r5 t t2
  else
   (QX x y).bind fun r6=>
   (qQ r6.2).bind fun r7=>
   nU y r7 t t2
 else
  some (false,(x,()))
theorem AQ (x y t t2):eg x y t t2=ud eg FE FD yk yl mZ x y t t2:=(l1 80 0 _).trans (by kernel_rfl)
def As (nU:ae eg)(a:Bool×(List Int)×Unit)(b:Bool×(List Int)×Unit):Option (Bool×(List Int)×Unit):=
 nU a.2.1 b.2.1 false ([]:List Int)
theorem FU (a b):pg a b=As eg a b:=(e1 80 _).trans (by kernel_rfl)
def Au (wb:ae jf)(a:Bool×(List Int)×Unit):Option (Bool×(List Int)×Unit):=
 (wb (!a.1) a.2.1).bind fun r0=>
 some (r0.1,(r0.2.1,()))
theorem FV (a):ph a=Au jf a:=(e1 81 _).trans (by kernel_rfl)
def Av (yr:ae iK)(tf:ae yk)(a:(Bool×(List Int)×Unit)×(Bool×(List Int)×Unit)×Unit):Option (Bool×(List Int)×Unit):=
 (yr (a.2.1.1,(a.2.1.2.1,()))).bind fun r0=>
 bif (r0==0) then
  (tf 1).bind fun r1=>
  some (r1.1,(r1.2.1,()))
 else
  some (a.2.1.1,(a.2.1.2.1,()))
theorem FX (a):jO a=Av iK yk a:=(e1 82 _).trans (by kernel_rfl)
def mG (su:ae eO)(sw:ae dE)(t:List Int)(t2:Int)(t3:Int)(out:List Int)(a:Bool)(a2:List Int):Option (ByteArray):=
 bif (decide (t3<t2)) then
  (idx t t3).bind fun v0=>
  su v0 t t2 t3 0 out a a2
 else
  sw out a a2
theorem qR (t t2 t3 out a a2):dD t t2 t3 out a a2=mG eO dE t t2 t3 out a a2:=(l1 83 0 _).trans (by kernel_rfl)
def mH (su:ae eO)(sx:ae dD)(x:Int)(t:List Int)(t2:Int)(t3:Int)(t4:Int)(out:List Int)(a:Bool)(a2:List Int):Option (ByteArray):=
 bif (decide (t4<9)) then
  let e0:Int:=(IntKind.wrap .u32 (48+(x.tmod 10)))
  bif (aB 1 1 out.length 1) then
  su (IntKind.wrap .u32 (x.tdiv 10)) t t2 t3 (IntKind.wrap .i64 (t4+1)) (out++([(IntKind.wrap .u8 e0)]:List Int)) a a2
  else none
 else
  sx t t2 (IntKind.wrap .i64 (t3+1)) out a a2
theorem qS (x t t2 t3 t4 out a a2):eO x t t2 t3 t4 out a a2=mH eO dD x t t2 t3 t4 out a a2:=(l1 83 1 _).trans (by kernel_rfl)
def sy (sw:ae dE)(mI:ae dF)(out:List Int)(a:Bool)(a2:List Int):Option (ByteArray):=
 let e0:Int:=(IntKind.wrap .i64 ((out.length:Int) - 1))
 (idx out e0).bind fun _=>
 (out[e0.toNat]?).bind fun v1=>
 bif (v1==48) then
  let e2:Int:=(IntKind.wrap .i64 ((out.length:Int) - 1))
  bif (c7 out.length 0 e2) then
  sw (out.take e2.toNat) a a2
  else none
 else
  bif a then
   bif (aB 1 1 out.length 1) then
   let e3:Int:=((out++([45]:List Int)).length:Int)
   mI 0 (IntKind.wrap .i64 (e3 - 1)) (out++([45]:List Int))
   else none
  else
   let e4:Int:=(IntKind.wrap .i64 ((out.length:Int) - 1))
   mI 0 e4 out
theorem zu (out a a2):dE out a a2=sy dE dF out a a2:=(l1 83 2 _).trans (by kernel_rfl)
def sA (mI:ae dF)(i:Int)(j:Int)(out:List Int):Option (ByteArray):=
 bif (decide (i<j)) then
  (idx out j).bind fun _=>
  (out[j.toNat]?).bind fun v0=>
  (idx out i).bind fun _=>
  (out[i.toNat]?).bind fun v1=>
  (idx out i).bind fun _=>
  (out[i.toNat]?).bind fun v2=>
  (idx (out.set i.toNat v0) j).bind fun _=>
  ((out.set i.toNat v0)[j.toNat]?).bind fun v3=>
  mI (IntKind.wrap .i64 (i+1)) (IntKind.wrap .i64 (j - 1)) ((out.set i.toNat v0).set j.toNat v1)
 else
  some (strOf out)
theorem zv (i j out):dF i j out=sA dF i j out:=(l1 83 3 _).trans (by kernel_rfl)
def yx (sx:ae dD)(a:Bool×(List Int)×Unit):Option (ByteArray):=
 bif ((a.2.1.length:Int)==0) then
  some (bs [48])
 else
  let e0:Int:=(IntKind.wrap .i64 (9*(a.2.1.length:Int)))
  bif (gL 1 0 (IntKind.wrap .i64 (e0+1))) then
  sx a.2.1 (a.2.1.length:Int) 0 ([]:List Int) a.1 a.2.1
  else none
theorem D9 (a):mY a=yx dD a:=(e1 83 _).trans (by kernel_rfl)
def nV (uf:ae fC)(wb:ae jf)(t:List Int)(t2:Int)(t3:Int)(out:List Int)(a:Bool)(a2:List Int)(b:Bool)(b2:List Int)(t4:Bool)(t5:List Int):Option (Bool×(List Int)×Unit):=
 bif (decide (t3<t2)) then
  (idx t t3).bind fun v0=>
  uf t3 v0 0 t t2 t3 b2 (b2.length:Int) 0 out a a2 b b2 t4 t5
 else
  (wb (!(a==b)) out).bind fun r1=>
  some (r1.1,(r1.2.1,()))
theorem sB (t t2 t3 out a a2 b b2 t4 t5):de t t2 t3 out a a2 b b2 t4 t5=nV fC jf t t2 t3 out a a2 b b2 t4 t5:=(l1 110 0 _).trans (by kernel_rfl)
def nW (uf:ae fC)(ug:ae de)(i:Int)(x:Int)(carry:Int)(t:List Int)(t2:Int)(t3:Int)(t4:List Int)(t5:Int)(t6:Int)(out:List Int)(a:Bool)(a2:List Int)(b:Bool)(b2:List Int)(t7:Bool)(t8:List Int):Option (Bool×(List Int)×Unit):=
 bif (decide (t6<t5)) then
  (idx t4 t6).bind fun v0=>
  let e1:Int:=(IntKind.wrap .u64 ((IntKind.wrap .u64 x)*(IntKind.wrap .u64 v0)))
  (idx out (IntKind.wrap .i64 (i+t6))).bind fun _=>
  (out[(IntKind.wrap .i64 (i+t6)).toNat]?).bind fun v2=>
  let e3:Int:=(IntKind.wrap .u64 (e1+(IntKind.wrap .u64 v2)))
  let e4:Int:=((IntKind.wrap .u64 (carry+e3)).tmod 1000000000)
  (idx out (IntKind.wrap .i64 (i+t6))).bind fun _=>
  (out[(IntKind.wrap .i64 (i+t6)).toNat]?).bind fun v5=>
  let e6:List Int:=(out.set (IntKind.wrap .i64 (i+t6)).toNat (IntKind.wrap .u32 e4))
  let e7:Int:=(IntKind.wrap .u64 ((IntKind.wrap .u64 (carry+e3)).tdiv 1000000000))
  uf i x e7 t t2 t3 t4 t5 (IntKind.wrap .i64 (t6+1)) e6 a a2 b b2 t7 t8
 else
  (idx out (IntKind.wrap .i64 (i+(b2.length:Int)))).bind fun _=>
  (out[(IntKind.wrap .i64 (i+(b2.length:Int))).toNat]?).bind fun v8=>
  let e9:List Int:=(out.set (IntKind.wrap .i64 (i+(b2.length:Int))).toNat (IntKind.wrap .u32 carry))
  ug t t2 (IntKind.wrap .i64 (t3+1)) e9 a a2 b b2 t7 t8
theorem sC (i x carry t t2 t3 t4 t5 t6 out a a2 b b2 t7 t8):fC i x carry t t2 t3 t4 t5 t6 out a a2 b b2 t7 t8=nW fC de i x carry t t2 t3 t4 t5 t6 out a a2 b b2 t7 t8:=(l1 110 1 _).trans (by kernel_rfl)
def Aw (ug:ae de)(a:Bool×(List Int)×Unit)(b:Bool×(List Int)×Unit):Option (Bool×(List Int)×Unit):=
 let e0:Int:=(IntKind.wrap .i64 ((a.2.1.length:Int)+(b.2.1.length:Int)))
 bif (gL 4 e0 e0) then
 ug a.2.1 (a.2.1.length:Int) 0 (List.replicate e0.toNat 0) a.1 a.2.1 b.1 b.2.1 false ([]:List Int)
 else none
theorem FY (a b):pk a b=Aw de a b:=(e1 110 _).trans (by kernel_rfl)
def Hl (qQ:ae mZ)(neg:Bool)(d:List Int):Option (Bool×(List Int)×Unit):=
 (qQ d).bind fun r0=>
 bif neg then
  some ((decide ((r0.length:Int)>0)),(r0,()))
 else
  some (false,(r0,()))
theorem L7 (neg d):jf neg d=Hl mZ neg d:=(e1 113 _).trans (by kernel_rfl)
def yY (E2:ae nJ)(a:List Int)(b:List Int)(i:Int):Option (Int):=
 bif (decide (i≥0)) then
  (idx a i).bind fun v0=>
  (idx b i).bind fun v1=>
  bif (v0 != v1) then
   (idx a i).bind fun v2=>
   (idx b i).bind fun v3=>
   bif (decide (v2<v3)) then
    some (-1)
   else
    some 1
  else
   E2 a b (IntKind.wrap .i64 (i - 1))
 else
  some 0
theorem Cw (a b i):nJ a b i=yY nJ a b i:=(l1 114 0 _).trans (by kernel_rfl)
def MP (E2:ae nJ)(a:List Int)(b:List Int):Option (Int):=
 bif ((a.length:Int) != (b.length:Int)) then
  bif (decide ((a.length:Int)<(b.length:Int))) then
   some (-1)
  else
   some 1
 else
  let e0:Int:=(IntKind.wrap .i64 ((a.length:Int) - 1))
  E2 a b e0
theorem QY (a b):zq a b=MP nJ a b:=(e1 114 _).trans (by kernel_rfl)
def Cx (Cy:ae lJ)(x:Int)(y:Int):Option (Int):=
 bif (decide (y>0)) then
  bif (!(y==0)) then
  Cy y (x.tmod y)
  else none
 else
  some x
theorem HV (x y):lJ x y=Cx lJ x y:=(l1 115 0 _).trans (by kernel_rfl)
def Jw (Cy:ae lJ)(x:Int)(y:Int):Option (Int):=
 Cy x y
theorem Ow (x y):FD x y=Jw lJ x y:=(e1 115 _).trans (by kernel_rfl)
def jR (E3:ae qM)(d:List Int)(n:Int)(i:Int):Option (Int):=
 bif (decide (i≥0)) then
  (idx d i).bind fun v0=>
  let e1:Int:=(IntKind.wrap .i64 ((IntKind.wrap .i64 (n*1000000000))+(IntKind.wrap .i64 v0)))
  E3 d e1 (IntKind.wrap .i64 (i - 1))
 else
  some n
theorem kn (d n i):qM d n i=jR qM d n i:=(l1 116 0 _).trans (by kernel_rfl)
def MQ (E3:ae qM)(d:List Int):Option (Int):=
 let e0:Int:=(IntKind.wrap .i64 ((d.length:Int) - 1))
 E3 d 0 e0
theorem QZ (d):FE d=MQ qM d:=(e1 116 _).trans (by kernel_rfl)
def Jx (Hk:ae zq)(Jy:ae uZ)(qQ:ae mZ)(aa6:ae FF)(a:List Int)(b:List Int):Option ((List Int)×List Int):=
 (Hk a b).bind fun r0=>
 bif (decide (r0<0)) then
  some (([]:List Int),a)
 else
  bif ((b.length:Int)==1) then
   (idx b 0).bind fun v1=>
   (Jy a v1).bind fun r2=>
   (qQ ([r2.2]:List Int)).bind fun r3=>
   some (r2.1,r3)
  else
   (aa6 a b).bind fun r4=>
   some (r4.1,r4.2)
theorem Ox (a b):yl a b=Jx zq uZ mZ FF a b:=(e1 117 _).trans (by kernel_rfl)
def yZ (E4:ae nK)(d:List Int):Option (List Int):=
 bif (decide ((d.length:Int)>0)) then
  let e0:Int:=(IntKind.wrap .i64 ((d.length:Int) - 1))
  (idx d e0).bind fun v1=>
  bif (v1==0) then
   let e2:Int:=(IntKind.wrap .i64 ((d.length:Int) - 1))
   bif (c7 d.length 0 e2) then
   E4 (cut d 0 e2)
   else none
  else
   some d
 else
  some d
theorem Cz (d):nK d=yZ nK d:=(l1 118 0 _).trans (by kernel_rfl)
def MR (E4:ae nK)(d:List Int):Option (List Int):=
 E4 d
theorem Q0 (d):mZ d=MR nK d:=(e1 118 _).trans (by kernel_rfl)
def yy (FZ:ae nc)(a:(Bool×(List Int)×Unit)×(Bool×(List Int)×Unit)×Unit):Option (Bool):=
 (FZ (a.1.1,(a.1.2.1,()))).bind fun r0=>
 bif r0 then
  some true
 else
  (FZ (a.2.1.1,(a.2.1.2.1,()))).bind fun r1=>
  some r1
theorem Ea (a):na a=yy nc a:=(e1 149 _).trans (by kernel_rfl)
def wc (CA:ae lK)(a:List Int)(b:Int)(rest:Int)(i:Int)(out:List Int):Option ((List Int)×Int):=
 bif (decide (i≥0)) then
  (idx a i).bind fun v0=>
  let e1:Int:=(IntKind.wrap .u64 ((IntKind.wrap .u64 (rest*1000000000))+(IntKind.wrap .u64 v0)))
  bif (!((IntKind.wrap .u64 b)==0)) then
  let e2:Int:=(IntKind.wrap .u64 (e1.tdiv (IntKind.wrap .u64 b)))
  bif (!((IntKind.wrap .u64 b)==0)) then
  (idx out i).bind fun _=>
  (out[i.toNat]?).bind fun v3=>
  CA a b (e1.tmod (IntKind.wrap .u64 b)) (IntKind.wrap .i64 (i - 1)) (out.set i.toNat (IntKind.wrap .u32 e2))
  else none
  else none
 else
  some (out,(IntKind.wrap .u32 rest))
theorem Ax (a b rest i out):lK a b rest i out=wc lK a b rest i out:=(l1 152 0 _).trans (by kernel_rfl)
def Jz (CA:ae lK)(a:List Int)(b:Int):Option ((List Int)×Int):=
 bif (gL 4 (a.length:Int) (a.length:Int)) then
 let e0:List Int:=(List.replicate (a.length:Int).toNat 0)
 let e1:Int:=(IntKind.wrap .i64 ((a.length:Int) - 1))
 CA a b 0 e1 e0
 else none
theorem Oy (a b):uZ a b=Jz lK a b:=(e1 152 _).trans (by kernel_rfl)
def y3 (y4:ae jP)(Jy:ae uZ)(k:Int)(v:List Int)(n:Int)(j:Int)(q:List Int)(u:List Int):Option ((List Int)×List Int):=
 bif (decide (j≥0)) then
  (idx u (IntKind.wrap .i64 (j+n))).bind fun _=>
  (u[(IntKind.wrap .i64 (j+n)).toNat]?).bind fun v0=>
  let e1:Int:=(IntKind.wrap .u64 ((IntKind.wrap .u64 v0)*1000000000))
  let e2:Int:=(IntKind.wrap .i64 ((IntKind.wrap .i64 (j+n)) - 1))
  (idx u e2).bind fun _=>
  (u[e2.toNat]?).bind fun v3=>
  let e4:Int:=(IntKind.wrap .u64 (e1+(IntKind.wrap .u64 v3)))
  (idx v (IntKind.wrap .i64 (n - 1))).bind fun v5=>
  bif (!((IntKind.wrap .u64 v5)==0)) then
  let e6:Int:=(IntKind.wrap .u64 (e4.tdiv (IntKind.wrap .u64 v5)))
  (idx v (IntKind.wrap .i64 (n - 1))).bind fun v7=>
  bif (!((IntKind.wrap .u64 v7)==0)) then
  y4 k v n j e6 (e4.tmod (IntKind.wrap .u64 v7)) q u
  else none
  else none
 else
  bif (c7 u.length 0 n) then
  (Jy (u.take n.toNat) k).bind fun r8=>
  some (q,r8.1)
  else none
theorem CC (k v n j q u):eP k v n j q u=y3 jP uZ k v n j q u:=(l1 153 0 _).trans (by kernel_rfl)
def y5 (jS:ae gH)(y4:ae jP)(k:Int)(v:List Int)(n:Int)(j:Int)(guess:Int)(rest:Int)(q:List Int)(u:List Int):Option ((List Int)×List Int):=
 bif (decide (guess≥1000000000)) then
  (idx v (IntKind.wrap .i64 (n - 1))).bind fun v0=>
  let e1:Int:=(IntKind.wrap .u64 (rest+(IntKind.wrap .u64 v0)))
  bif (decide (e1≥1000000000)) then
   jS k v n j (IntKind.wrap .u64 (guess - 1)) 0 n 0 q u
  else
   y4 k v n j (IntKind.wrap .u64 (guess - 1)) e1 q u
 else
  (idx v (IntKind.wrap .i64 (n - 2))).bind fun v2=>
  let e3:Int:=(IntKind.wrap .u64 (guess*(IntKind.wrap .u64 v2)))
  let e4:Int:=(IntKind.wrap .i64 ((IntKind.wrap .i64 (j+n)) - 2))
  (idx u e4).bind fun _=>
  (u[e4.toNat]?).bind fun v5=>
  let e6:Int:=(IntKind.wrap .u64 ((IntKind.wrap .u64 (rest*1000000000))+(IntKind.wrap .u64 v5)))
  bif (decide (e3>e6)) then
   (idx v (IntKind.wrap .i64 (n - 1))).bind fun v7=>
   let e8:Int:=(IntKind.wrap .u64 (rest+(IntKind.wrap .u64 v7)))
   bif (decide (e8≥1000000000)) then
    jS k v n j (IntKind.wrap .u64 (guess - 1)) 0 n 0 q u
   else
    y4 k v n j (IntKind.wrap .u64 (guess - 1)) e8 q u
  else
   jS k v n j guess 0 n 0 q u
theorem CD (k v n j guess rest q u):jP k v n j guess rest q u=y5 gH jP k v n j guess rest q u:=(l1 153 1 _).trans (by kernel_rfl)
def y6 (jS:ae gH)(E5:ae lL)(tg:ae eP)(k:Int)(v:List Int)(n:Int)(j:Int)(guess:Int)(borrow:Int)(t:Int)(t2:Int)(q:List Int)(u:List Int):Option ((List Int)×List Int):=
 bif (decide (t2<t)) then
  (idx u (IntKind.wrap .i64 (t2+j))).bind fun _=>
  (u[(IntKind.wrap .i64 (t2+j)).toNat]?).bind fun v0=>
  let e1:Int:=(IntKind.wrap .i64 ((IntKind.wrap .i64 v0) - borrow))
  (idx v t2).bind fun v2=>
  let e3:Int:=(IntKind.wrap .i64 ((IntKind.wrap .i64 guess)*(IntKind.wrap .i64 v2)))
  let e4:Int:=(IntKind.wrap .i64 (e1 - (e3.tmod 1000000000)))
  (idx v t2).bind fun v5=>
  let e6:Int:=(IntKind.wrap .i64 ((IntKind.wrap .i64 guess)*(IntKind.wrap .i64 v5)))
  bif (decide (e4<0)) then
   let e7:Int:=(IntKind.wrap .i64 ((IntKind.wrap .i64 (e6.tdiv 1000000000))+1))
   bif (decide ((IntKind.wrap .i64 (e4+1000000000))<0)) then
    let e8:Int:=(IntKind.wrap .i64 ((IntKind.wrap .i64 (e4+1000000000))+1000000000))
    (idx u (IntKind.wrap .i64 (t2+j))).bind fun _=>
    (u[(IntKind.wrap .i64 (t2+j)).toNat]?).bind fun v9=>
    let W6:List Int:=(u.set (IntKind.wrap .i64 (t2+j)).toNat (IntKind.wrap .u32 e8))
    jS k v n j guess (IntKind.wrap .i64 (e7+1)) t (IntKind.wrap .i64 (t2+1)) q W6
   else
    let Te:Int:=(IntKind.wrap .u32 (IntKind.wrap .i64 (e4+1000000000)))
    (idx u (IntKind.wrap .i64 (t2+j))).bind fun _=>
    (u[(IntKind.wrap .i64 (t2+j)).toNat]?).bind fun v12=>
    jS k v n j guess e7 t (IntKind.wrap .i64 (t2+1)) q (u.set (IntKind.wrap .i64 (t2+j)).toNat Te)
  else
   bif (decide (e4<0)) then
    let Xc:Int:=(IntKind.wrap .i64 ((IntKind.wrap .i64 (e6.tdiv 1000000000))+1))
    let e14:Int:=(IntKind.wrap .u32 (IntKind.wrap .i64 (e4+1000000000)))
    (idx u (IntKind.wrap .i64 (t2+j))).bind fun _=>
    (u[(IntKind.wrap .i64 (t2+j)).toNat]?).bind fun v15=>
    jS k v n j guess Xc t (IntKind.wrap .i64 (t2+1)) q (u.set (IntKind.wrap .i64 (t2+j)).toNat e14)
   else
    (idx u (IntKind.wrap .i64 (t2+j))).bind fun _=>
    (u[(IntKind.wrap .i64 (t2+j)).toNat]?).bind fun v16=>
    let e17:List Int:=(u.set (IntKind.wrap .i64 (t2+j)).toNat (IntKind.wrap .u32 e4))
    jS k v n j guess (IntKind.wrap .i64 (e6.tdiv 1000000000)) t (IntKind.wrap .i64 (t2+1)) q e17
 else
  (idx u (IntKind.wrap .i64 (j+n))).bind fun _=>
  (u[(IntKind.wrap .i64 (j+n)).toNat]?).bind fun v18=>
  let e19:Int:=(IntKind.wrap .i64 ((IntKind.wrap .i64 v18) - borrow))
  bif (decide (e19<0)) then
   E5 k v n j (IntKind.wrap .u64 (guess - 1)) e19 0 n 0 q u
  else
   (idx u (IntKind.wrap .i64 (j+n))).bind fun _=>
   (u[(IntKind.wrap .i64 (j+n)).toNat]?).bind fun v20=>
   let e21:List Int:=(u.set (IntKind.wrap .i64 (j+n)).toNat 0)
   (idx q j).bind fun _=>
   (q[j.toNat]?).bind fun v22=>
   tg k v n (IntKind.wrap .i64 (j - 1)) (q.set j.toNat (IntKind.wrap .u32 guess)) e21
theorem CE (k v n j guess borrow t t2 q u):gH k v n j guess borrow t t2 q u=y6 gH lL eP k v n j guess borrow t t2 q u:=(l1 153 2 _).trans (by kernel_rfl)
def y7 (E5:ae lL)(tg:ae eP)(k:Int)(v:List Int)(n:Int)(j:Int)(guess:Int)(x:Int)(carry:Int)(t:Int)(t2:Int)(q:List Int)(u:List Int):Option ((List Int)×List Int):=
 bif (decide (t2<t)) then
  (idx u (IntKind.wrap .i64 (t2+j))).bind fun _=>
  (u[(IntKind.wrap .i64 (t2+j)).toNat]?).bind fun v0=>
  (idx v t2).bind fun v1=>
  let e2:Int:=(IntKind.wrap .u32 ((IntKind.wrap .u32 (v0+v1))+carry))
  (idx u (IntKind.wrap .i64 (t2+j))).bind fun _=>
  (u[(IntKind.wrap .i64 (t2+j)).toNat]?).bind fun v3=>
  let e4:List Int:=(u.set (IntKind.wrap .i64 (t2+j)).toNat (e2.tmod 1000000000))
  E5 k v n j guess x (IntKind.wrap .u32 (e2.tdiv 1000000000)) t (IntKind.wrap .i64 (t2+1)) q e4
 else
  let e5:Int:=(IntKind.wrap .i64 (x+(IntKind.wrap .i64 carry)))
  (idx u (IntKind.wrap .i64 (j+n))).bind fun _=>
  (u[(IntKind.wrap .i64 (j+n)).toNat]?).bind fun v6=>
  let e7:List Int:=(u.set (IntKind.wrap .i64 (j+n)).toNat 0)
  (idx q j).bind fun _=>
  (q[j.toNat]?).bind fun v8=>
  tg k v n (IntKind.wrap .i64 (j - 1)) (q.set j.toNat (IntKind.wrap .u32 guess)) e7
theorem CF (k v n j guess x carry t t2 q u):lL k v n j guess x carry t t2 q u=y7 lL eP k v n j guess x carry t t2 q u:=(l1 153 3 _).trans (by kernel_rfl)
def MS (tg:ae eP)(Oz:ae yn)(qQ:ae mZ)(a:List Int)(b:List Int):Option ((List Int)×List Int):=
 let e0:Int:=(IntKind.wrap .i64 ((b.length:Int) - 1))
 (idx b e0).bind fun v1=>
 let e2:Int:=(IntKind.wrap .u64 ((IntKind.wrap .u64 v1)+1))
 bif (!(e2==0)) then
 let e3:Int:=(IntKind.wrap .u32 (IntKind.wrap .u64 ((1000000000:Int).tdiv e2)))
 (Oz a e3).bind fun r4=>
 (Oz b e3).bind fun r5=>
 (qQ r5).bind fun r6=>
 let e7:Int:=(IntKind.wrap .i64 ((r4.length:Int) - (r6.length:Int)))
 bif (gL 4 e7 e7) then
 let e8:Int:=(IntKind.wrap .i64 ((r4.length:Int) - (r6.length:Int)))
 tg e3 r6 (r6.length:Int) (IntKind.wrap .i64 (e8 - 1)) (List.replicate e7.toNat 0) r4
 else none
 else none
theorem Q1 (a b):FF a b=MS eP yn mZ a b:=(e1 153 _).trans (by kernel_rfl)
def yz (MT:ae im)(a:Bool×(List Int)×Unit):Option (Bool):=
 (MT (a.1,(a.2.1,()))).bind fun r0=>
 some (decide (r0>1000))
theorem Eb (a):nc a=yz im a:=(e1 164 _).trans (by kernel_rfl)
def tL (Ay:ae jQ)(k:Int)(carry:Int)(t:List Int)(t2:Int)(t3:Int)(out:List Int):Option (List Int):=
 bif (decide (t3<t2)) then
  (idx t t3).bind fun v0=>
  let e1:Int:=(IntKind.wrap .u64 ((IntKind.wrap .u64 v0)*(IntKind.wrap .u64 k)))
  let e2:Int:=((IntKind.wrap .u64 (carry+e1)).tmod 1000000000)
  bif (aB 4 1 out.length 1) then
  let e3:Int:=(IntKind.wrap .u64 ((IntKind.wrap .u64 (carry+e1)).tdiv 1000000000))
  Ay k e3 t t2 (IntKind.wrap .i64 (t3+1)) (out++([(IntKind.wrap .u32 e2)]:List Int))
  else none
 else
  bif (aB 4 1 out.length 1) then
  let e4:List Int:=(out++([(IntKind.wrap .u32 carry)]:List Int))
  some e4
  else none
theorem yA (k carry t t2 t3 out):jQ k carry t t2 t3 out=tL jQ k carry t t2 t3 out:=(l1 170 0 _).trans (by kernel_rfl)
def Hm (Ay:ae jQ)(a:List Int)(k:Int):Option (List Int):=
 let e0:Int:=(IntKind.wrap .i64 ((a.length:Int)+1))
 bif (gL 4 0 e0) then
 Ay k 0 a (a.length:Int) 0 ([]:List Int)
 else none
theorem L8 (a k):yn a k=Hm jQ a k:=(e1 170 _).trans (by kernel_rfl)
def po (pq:ae dv)(n:Int)(x:Int):Option (Int):=
 bif (decide (x>0)) then
  pq (IntKind.wrap .i64 (n+1)) (IntKind.wrap .u32 (x.tdiv 10))
 else
  some n
theorem we (n x):dv n x=po dv n x:=(l1 176 0 _).trans (by kernel_rfl)
def uh (pq:ae dv)(a:Bool×(List Int)×Unit):Option (Int):=
 bif ((a.2.1.length:Int)==0) then
  some 0
 else
  let e0:Int:=(IntKind.wrap .i64 ((a.2.1.length:Int) - 1))
  let e1:Int:=(IntKind.wrap .i64 ((a.2.1.length:Int) - 1))
  (idx a.2.1 e1).bind fun v2=>
  pq (IntKind.wrap .i64 (9*e0)) v2
theorem AR (a):im a=uh dv a:=(e1 176 _).trans (by kernel_rfl)
end
end Go.Proofs.YtofjebmoebhiiaaGreatDoor.Ev
namespace Go.Proofs.YtofjebmoebhiiaaGreatDoor.Ev
open Go.Abs
noncomputable section
def E6 (Xd:ae Ca)(a:ByteArray):Option (Bool):=
 (Xd a).bind fun r0=>
 some r0.2
theorem JA (a):uU a=E6 Ca a:=(e1 68 _).trans (by kernel_rfl)
def Hn (mi:ae eM)(PY:ae na)(a:ByteArray):Option (((Bool×(List Int)×Unit)×(Bool×(List Int)×Unit)×Unit)×Bool):=
 (mi a).bind fun r0=>
 bif r0.2 then
  (PY ((r0.1.1.1,(r0.1.1.2.1,())),((r0.1.2.1.1,(r0.1.2.1.2.1,())),()))).bind fun r1=>
  some (((r0.1.1.1,(r0.1.1.2.1,())),((r0.1.2.1.1,(r0.1.2.1.2.1,())),())),(!r1))
 else
  some (((r0.1.1.1,(r0.1.1.2.1,())),((r0.1.2.1.1,(r0.1.2.1.2.1,())),())),false)
theorem L9 (a):Ca a=Hn eM na a:=(e1 108 _).trans (by kernel_rfl)
end
end Go.Proofs.YtofjebmoebhiiaaGreatDoor.Ev
namespace Go.Proofs.YtofjebmoebhiiaaGreatDoor.Ev
open Go.Abs
noncomputable section
def mn (Ho:ae iN)(s:b6)(f:Int):Option (Bool):=
 (Ho s f).bind fun r0=>
 some (decide (r0≥0))
theorem sg (s f):eo s f=mn iN s f:=(e1 100070 _).trans (by kernel_rfl)
def mo (Hp:ae iO)(s:b6)(f:hZ×zqC):Option (Bool):=
 (Hp s ((f.1.1,(f.1.2.1,())),(f.2.1,(f.2.2.1,(f.2.2.2.1,()))))).bind fun r0=>
 some (decide (r0≥0))
theorem sh (s f):eA s f=mo iO s f:=(e1 100071 _).trans (by kernel_rfl)
def gS (lr:ae bT)(Rz:ae s6)(s:b6)(f:Int)(t:Int)(t2:Int):Option (Int):=
 bif (decide (t2<t)) then
  (idx s t2).bind fun v0=>
  (Rz (v0.1,(v0.2.1,())) f).bind fun r1=>
  bif r1 then
   some t2
  else
   lr s f t (IntKind.wrap .i64 (t2+1))
 else
  some (-1)
theorem ko (s f t t2):bT s f t t2=gS bT s6 s f t t2:=(l1 100109 0 _).trans (by kernel_rfl)
def nX (lr:ae bT)(s:b6)(f:Int):Option (Int):=
 lr s f (s.length:Int) 0
theorem u7 (s f):iN s f=nX bT s f:=(e1 100109 _).trans (by kernel_rfl)
def gT (lu:ae bU)(RA:ae s7)(s:b6)(f:Int)(f2:ji)(f3:Int)(f4:ByteArray)(f5:b6)(t:Int)(t2:Int):Option (Int):=
 bif (decide (t2<t)) then
  (idx s t2).bind fun v0=>
  (RA (v0.1,(v0.2.1,())) (f,(f2,())) (f3,(f4,(f5,())))).bind fun r1=>
  bif r1 then
   some t2
  else
   lu s f f2 f3 f4 f5 t (IntKind.wrap .i64 (t2+1))
 else
  some (-1)
theorem kp (s f f2 f3 f4 f5 t t2):bU s f f2 f3 f4 f5 t t2=gT bU s7 s f f2 f3 f4 f5 t t2:=(l1 100110 0 _).trans (by kernel_rfl)
def nY (lu:ae bU)(s:b6)(f:hZ×zqC):Option (Int):=
 lu s f.1.1 f.1.2.1 f.2.1 f.2.2.1 f.2.2.2.1 (s.length:Int) 0
theorem u9 (s f):iO s f=nY bU s f:=(e1 100110 _).trans (by kernel_rfl)
end
end Go.Proofs.YtofjebmoebhiiaaGreatDoor.Ev
namespace Go.Proofs.YtofjebmoebhiiaaGreatDoor.Ev
open Go.Abs
noncomputable section
def E7 (OA:ae o8)(s:ByteArray)(sep:ByteArray):Option (ByteArray×ByteArray×Bool):=
 (OA s sep).bind fun r0=>
 some (r0.1,r0.2.1,r0.2.2)
theorem JB (s sep):uW s sep=E7 o8 s sep:=(e1 75 _).trans (by kernel_rfl)
def sD (F0:ae gX)(s:ByteArray)(fg:ByteArray):Option (ByteArray×Bool):=
 (F0 s fg).bind fun r0=>
 some (r0.1,r0.2)
theorem zw (s fg):iT s fg=sD gX s fg:=(e1 112 _).trans (by kernel_rfl)
end
end Go.Proofs.YtofjebmoebhiiaaGreatDoor.Ev
namespace Go.Proofs.YtofjebmoebhiiaaGreatDoor.Ev
open Go.Abs
noncomputable section
def wg (K6:ae iW)(s:ByteArray)(sep:ByteArray):Option (ByteArray×ByteArray×Bool):=
 (K6 s sep).bind fun r0=>
 bif (decide (r0≥0)) then
  bif (c7 s.size 0 r0) then
  bif (c7 s.size (IntKind.wrap .i64 (r0+(sep.size:Int))) (s.size:Int)) then
  let e1:ByteArray:=(s.extract (IntKind.wrap .i64 (r0+(sep.size:Int))).toNat (s.size:Int).toNat)
  some ((s.extract (0:Int).toNat r0.toNat),e1,true)
  else none
  else none
 else
  some (s,ByteArray.empty,false)
theorem CG (s sep):o8 s sep=wg iW s sep:=(e1 111 _).trans (by kernel_rfl)
def sE (F1:ae eU)(s:ByteArray)(substr:ByteArray):Option (Int):=
 bif ((substr.size:Int)==0) then
  some 0
 else
  bif (substr.toList==s.toList) then
   some 0
  else
   bif ((substr.size:Int)==1) then
    (Af substr 0).bind fun v0=>
    (F1 s v0).bind fun r1=>
    some r1
   else
    bif (decide ((substr.size:Int)≥(s.size:Int))) then
    some (-1)
    else none
theorem zx (s substr):iW s substr=sE eU s substr:=(e1 150 _).trans (by kernel_rfl)
def nj (F2:ae gY)(s:ByteArray)(fg:ByteArray):Option (ByteArray×Bool):=
 (F2 s fg).bind fun r0=>
 bif (!r0) then
  some (s,false)
 else
  bif (c7 s.size (fg.size:Int) (s.size:Int)) then
  let e1:ByteArray:=(s.extract (fg.size:Int).toNat (s.size:Int).toNat)
  some (e1,true)
  else none
theorem th (s fg):gX s fg=nj gY s fg:=(e1 151 _).trans (by kernel_rfl)
def nk (s:ByteArray)(fg:ByteArray):Option (Bool):=
 bif (decide ((s.size:Int)≥(fg.size:Int))) then
  bif (c7 s.size 0 (fg.size:Int)) then
  let e0:ByteArray:=(s.extract (0:Int).toNat (fg.size:Int).toNat)
  some (e0.toList==fg.toList)
  else none
 else
  some false
theorem ti (s fg):gY s fg=nk s fg:=(e1 169 _).trans (by kernel_rfl)
end
end Go.Proofs.YtofjebmoebhiiaaGreatDoor.Ev
namespace Go.Proofs.YtofjebmoebhiiaaGreatDoor.Ev
open Go.Abs
noncomputable section
def qT (qU:ae ib)(t:ji)(t2:Int)(t3:Int):Option (Bool):=
 bif (decide (t3<t2)) then
  (idx t t3).bind fun v0=>
  bif (decide ((v0.2.2.1.length:Int)>40)) then
   some true
  else
   bif (decide ((v0.2.1.size:Int)>200)) then
    some true
   else
    qU t t2 (IntKind.wrap .i64 (t3+1))
 else
  some false
theorem xA (t t2 t3):ib t t2 t3=qT ib t t2 t3:=(l1 12 0 _).trans (by kernel_rfl)
def Ec (qU:ae ib)(c:hZ)(most:Int):Option (Bool):=
 bif (decide ((c.2.1.length:Int)>most)) then
  some true
 else
  qU c.2.1 (c.2.1.length:Int) 0
theorem MU (c most):tG c most=Ec ib c most:=(e1 12 _).trans (by kernel_rfl)
end
end Go.Proofs.YtofjebmoebhiiaaGreatDoor.Ev
namespace Go.Proofs.YtofjebmoebhiiaaGreatDoor.Ev
open Go.Abs
noncomputable section
def fV (fW:ae bH)(fL:ae aF)(e:Int)(round:Int)(t:Nat)(t2:Int)(t3:Int)(t4:Int)(t5:Int)(x:Int)(x2:ji)(was:Int)(jv:Nat)(want:Int)(dh:ji)(d:Int)(d2:Nat)(br:H0)(hp1:H1)(hp2:H2)(ma:H9):Option (Bool):=
 bif (decide (t5<t4)) then
  (af hp1 d2).bind fun v0=>
  (idx v0 t5).bind fun _=>
  (af hp1 d2).bind fun v1=>
  (v1[t5.toNat]?).bind fun v2=>
  (af hp2 v2.2.2.1).bind fun v3=>
  fW e round t5 t t2 t3 t4 t5 (v3.length:Int) 0 x x2 was jv want dh d d2 br hp1 hp2 ma
 else
  fL e (IntKind.wrap .i64 (round+1)) t t2 t3 x x2 was jv want dh br hp1 hp2 ma
theorem lh (e round t t2 t3 t4 t5 x x2 was jv want dh d d2 br hp1 hp2 ma):aZ e round t t2 t3 t4 t5 x x2 was jv want dh d d2 br hp1 hp2 ma=fV bH aF e round t t2 t3 t4 t5 x x2 was jv want dh d d2 br hp1 hp2 ma:=(l1 3 2 _).trans (by kernel_rfl)
def lj (vE:ae mC)(fM:ae aT)(e:Int)(round:Int)(t:Nat)(t2:Int)(t3:Int)(t4:Int)(t5:Int)(x:Int)(x2:ji)(was:Int)(jv:Nat)(want:Int)(dh:Nat)(d:Int)(d2:Nat)(br:H0)(hp1:H1)(hp2:H2)(ma:H9):Option (Bool):=
 bif (decide (t5<t4)) then
  (af hp1 d2).bind fun v0=>
  (idx v0 t5).bind fun _=>
  (af hp1 d2).bind fun v1=>
  (v1[t5.toNat]?).bind fun v2=>
  (af hp2 v2.2.2.1).bind fun v3=>
  vE e round t5 t t2 t3 t4 t5 (v3.length:Int) 0 x x2 was jv want dh d d2 br hp1 hp2 ma
 else
  fM e (IntKind.wrap .i64 (round+1)) t t2 t3 x x2 was jv want dh br hp1 hp2 ma
theorem ui (e round t t2 t3 t4 t5 x x2 was jv want dh d d2 br hp1 hp2 ma):gN e round t t2 t3 t4 t5 x x2 was jv want dh d d2 br hp1 hp2 ma=lj mC aT e round t t2 t3 t4 t5 x x2 was jv want dh d d2 br hp1 hp2 ma:=(l1 3 2 _).trans (by kernel_rfl)
def fX (fW:ae bH)(fY:ae aZ)(e:Int)(round:Int)(i:Int)(t:Nat)(t2:Int)(t3:Int)(t4:Int)(t5:Int)(t6:Int)(t7:Int)(x:Int)(x2:ji)(was:Int)(jv:Nat)(want:Int)(dh:ji)(d:Int)(d2:Nat)(br:H0)(hp1:H1)(hp2:H2)(ma:H9):Option (Bool):=
 bif (decide (t7<t6)) then
  (af hp1 d2).bind fun v0=>
  (idx v0 i).bind fun _=>
  (af hp1 d2).bind fun v1=>
  (v1[i.toNat]?).bind fun v2=>
  (af hp2 v2.2.2.1).bind fun v3=>
  (idx v3 t7).bind fun _=>
  (af hp2 v2.2.2.1).bind fun v4=>
  (v4[t7.toNat]?).bind fun v5=>
  let e6:H2:=(gK hp2 v2.2.2.1 (v4.set t7.toNat (v5.1,(99,()))))
  fW e round i t t2 t3 t4 t5 t6 (IntKind.wrap .i64 (t7+1)) x x2 was jv want dh d d2 br hp1 e6 ma
 else
  fY e round t t2 t3 t4 (IntKind.wrap .i64 (t5+1)) x x2 was jv want dh d d2 br hp1 hp2 ma
theorem lk (e round i t t2 t3 t4 t5 t6 t7 x x2 was jv want dh d d2 br hp1 hp2 ma):bH e round i t t2 t3 t4 t5 t6 t7 x x2 was jv want dh d d2 br hp1 hp2 ma=fX bH aZ e round i t t2 t3 t4 t5 t6 t7 x x2 was jv want dh d d2 br hp1 hp2 ma:=(l1 3 3 _).trans (by kernel_rfl)
def fN (fY:ae aZ)(fO:ae aG)(Az:ae mh)(lP:ae lA)(e:Int)(round:Int)(t:Nat)(t2:Int)(t3:Int)(x:Int)(x2:ji)(was:Int)(jv:Nat)(want:Int)(dh:ji)(br:H0)(hp1:H1)(hp2:H2)(ma:H9):Option (Bool):=
 bif (decide (round<2)) then
  (Az (x,(x2,())) hp1 hp2).bind fun r0=>
  bif (r0.1.2 != e) then
   some false
  else
   (typed (hs br r0.2.1 r0.2.2 [] [] [] [] [] [] ma) yH (.rv (.agg [⟨.int .i64,r0.1.1.1⟩,⟨.ref 1,r0.1.1.2.1⟩]))).bind fun v1=>
   (lP v1 (want,(dh,()))).bind fun r2=>
   bif (!r2) then
    some false
   else
    (typed (hs br r0.2.1 r0.2.2 [] [] [] [] [] [] ma) yH (.rv (.agg [⟨.int .i64,was⟩,⟨.ref 0,jv⟩]))).bind fun v3=>
    (lP (x,(x2,())) v3).bind fun r4=>
    bif (!r4) then
     some false
    else
     (af r0.2.1 r0.1.1.2.1).bind fun v5=>
     fY e round t t2 t3 (v5.length:Int) 0 x x2 was jv want dh r0.1.1.1 r0.1.1.2.1 br r0.2.1 r0.2.2 ma
 else
  fO t t2 (IntKind.wrap .i64 (t3+1)) br hp1 hp2 ma
theorem kq (e round t t2 t3 x x2 was jv want dh br hp1 hp2 ma):aF e round t t2 t3 x x2 was jv want dh br hp1 hp2 ma=fN aZ aG mh lA e round t t2 t3 x x2 was jv want dh br hp1 hp2 ma:=(l1 3 1 _).trans (by kernel_rfl)
def fP (vF:ae gN)(fO:ae aG)(Az:ae mh)(lP:ae lA)(e:Int)(round:Int)(t:Nat)(t2:Int)(t3:Int)(x:Int)(x2:ji)(was:Int)(jv:Nat)(want:Int)(dh:Nat)(br:H0)(hp1:H1)(hp2:H2)(ma:H9):Option (Bool):=
 bif (decide (round<2)) then
  (Az (x,(x2,())) hp1 hp2).bind fun r0=>
  bif (r0.1.2 != e) then
   some false
  else
   (typed (hs br r0.2.1 r0.2.2 [] [] [] [] [] [] ma) yH (.rv (.agg [⟨.int .i64,r0.1.1.1⟩,⟨.ref 1,r0.1.1.2.1⟩]))).bind fun v1=>
   (typed (hs br r0.2.1 r0.2.2 [] [] [] [] [] [] ma) yH (.rv (.agg [⟨.int .i64,want⟩,⟨.ref 0,dh⟩]))).bind fun v2=>
   (lP v1 v2).bind fun r3=>
   bif (!r3) then
    some false
   else
    (typed (hs br r0.2.1 r0.2.2 [] [] [] [] [] [] ma) yH (.rv (.agg [⟨.int .i64,was⟩,⟨.ref 0,jv⟩]))).bind fun v4=>
    (lP (x,(x2,())) v4).bind fun r5=>
    bif (!r5) then
     some false
    else
     (af r0.2.1 r0.1.1.2.1).bind fun v6=>
     vF e round t t2 t3 (v6.length:Int) 0 x x2 was jv want dh r0.1.1.1 r0.1.1.2.1 br r0.2.1 r0.2.2 ma
 else
  fO t t2 (IntKind.wrap .i64 (t3+1)) br hp1 hp2 ma
theorem kr (e round t t2 t3 x x2 was jv want dh br hp1 hp2 ma):aT e round t t2 t3 x x2 was jv want dh br hp1 hp2 ma=fP gN aG mh lA e round t t2 t3 x x2 was jv want dh br hp1 hp2 ma:=(l1 3 1 _).trans (by kernel_rfl)
def dc (fL:ae aF)(fM:ae aT)(sF:ae fT)(MV:ae rH)(OB:ae tH)(uj:ae ft)(t:Nat)(t2:Int)(t3:Int)(br:H0)(hp1:H1)(hp2:H2)(ma:H9):Option (Bool):=
 bif (decide (t3<t2)) then
  (af ma t).bind fun v0=>
  (idx v0 t3).bind fun _=>
  (af ma t).bind fun v1=>
  (v1[t3.toNat]?).bind fun v2=>
  (sF (v2.1,(v2.2.1,())) br).bind fun r3=>
  (MV (v2.1,(v2.2.1,()))).bind fun r4=>
  bif (r4==0) then
   (OB (v2.1,(v2.2.1,()))).bind fun r5=>
   fL r4 0 t t2 t3 v2.1 v2.2.1 r3.1.1 r3.1.2.1 r5.1 r5.2.1 r3.2 hp1 hp2 ma
  else
   fM r4 0 t t2 t3 v2.1 v2.2.1 r3.1.1 r3.1.2.1 0 (0:Nat) r3.2 hp1 hp2 ma
 else
  uj.bind fun r6=>
  some r6
theorem fi (t t2 t3 br hp1 hp2 ma):aG t t2 t3 br hp1 hp2 ma=dc aF aT fT rH tH ft t t2 t3 br hp1 hp2 ma:=(l1 3 0 _).trans (by kernel_rfl)
def nL (wh:ae ia)(OC:ae tG)(uj:ae ft)(MW:ae rG)(c:hZ)(raw:(List (List Int))×(List Int)×Int×(List Int)×Unit):Option (Bool):=
 (OC (c.1,(c.2.1,())) 40).bind fun r0=>
 bif r0 then
  uj.bind fun r1=>
  some r1
 else
  (MW (raw.1,(raw.2.1,(raw.2.2.1,(raw.2.2.2.1,())))) 30).bind fun r2=>
  let e3:H9:=(([]:H9)++[some ([(c.1,(c.2.1,())),(r2.1,(r2.2.1,()))]:List hZ)])
  let e4:Nat:=(([]:H9).length+1:Nat)
  (af e3 e4).bind fun v5=>
  wh e4 (v5.length:Int) 0 e3
theorem yB (c raw):ju c raw=nL ia tG ft rG c raw:=(e1 3 _).trans (by kernel_rfl)
def CH (lQ:ae kh)(PZ:ae qK)(UJ:ae zp)(MX:ae mV)(He:ae tV)(nZ:ae iI)(JC:ae vQ)(iY:ae cq):Option (Bool):=
 let e0:b6:=([(0,((-1),())),(1,(3,())),(2,(4,())),(5,(6,()))]:b6)
 lQ.bind fun r1=>
 (PZ (r1.1,(r1.2.1,()))).bind fun r2=>
 lQ.bind fun r3=>
 (UJ (r3.1,(r3.2.1,()))).bind fun r4=>
 lQ.bind fun r5=>
 (MX (r5.1,(r5.2.1,()))).bind fun r6=>
 lQ.bind fun r7=>
 (He (r7.1,(r7.2.1,()))).bind fun r8=>
 bif (r2.2.2==0) then
  bif (r4.2.2==0) then
   bif (r6.2.2==0) then
    bif (r8.2==0) then
     (nZ r2.1 e0).bind fun r9=>
     bif r9 then
      (nZ r4.1 e0).bind fun NF=>
      bif NF then
       (nZ r6.1 e0).bind fun r11=>
       bif r11 then
        bif (BS yT (r2.2.1.1,(r2.2.1.2.1,())) (2,(0,()))) then
         bif (BS yT (r4.2.1.1,(r4.2.1.2.1,())) (0,(3,()))) then
          bif (BS yT (r6.2.1.1,(r6.2.1.2.1,())) (2,(3,()))) then
           bif ((r8.1.2.1.length:Int)==7) then
            (idx r8.1.2.1 0).bind fun v12=>
            bif (v12.1==2) then
             (idx r8.1.2.1 1).bind fun v13=>
             bif (v13.2.1.toList==(bs [45,50]).toList) then
              (idx r8.1.2.1 1).bind fun v14=>
              (JC ([0,(2:Int)]:List Int)).bind fun r15=>
              (iY v14.2.2.1 r15).bind fun r16=>
              bif r16 then
               (idx r8.1.2.1 4).bind fun v17=>
               bif (v17.1==4) then
                (idx r8.1.2.1 4).bind fun v18=>
                bif (v18.2.1.toList==(bs [45,49,47,50]).toList) then
                 (idx r8.1.2.1 4).bind fun v19=>
                 let e20:List Int:=([1,(1:Int),(2:Int),(1:Int)]:List Int)
                 (JC e20).bind fun r21=>
                 (iY v19.2.2.1 r21).bind fun r22=>
                 some r22
                else
                 some false
               else
                some false
              else
               some false
             else
              some false
            else
             some false
           else
            some false
          else
           some false
         else
          some false
        else
         some false
       else
        some false
      else
       some false
     else
      some false
    else
     some false
   else
    some false
  else
   some false
 else
  some false
theorem K7:ft=CH kh qK zp mV tV iI vQ cq:=(Hb T B lf 13 ()).trans (by kernel_rfl)
def zy (AA:ae jK):Option hZ:=
 let e0:List ((List Int)×ByteArray×Unit):=([(([0]:List Int),((bs [48]),())),(([1]:List Int),((bs [48]),())),(([2]:List Int),((bs [49,47,50]),())),(([0,(1:Int)]:List Int),((bs [49]),())),(([1,(2:Int)]:List Int),((bs [49]),())),(([0,(2:Int)]:List Int),((bs [50]),())),(([0,(1:Int),(2:Int)]:List Int),((bs [51]),()))]:List ((List Int)×ByteArray×Unit))
 (AA e0 3).bind fun r1=>
 some (r1.1.1,(r1.1.2.1,()))
theorem Iy:kh=zy jK:=(Hb T B lf 28 ()).trans (by kernel_rfl)
def Ed (wk:ae jd)(l:List Int)(i:Int)(out:b6):Option b6:=
 bif (decide ((IntKind.wrap .i64 (i+1))<(l.length:Int))) then
  (idx l i).bind fun v0=>
  (idx l (IntKind.wrap .i64 (i+1))).bind fun v1=>
  bif (aB 16 2 out.length 1) then
  let e2:b6:=(out++([(v0,(v1,()))]:b6))
  wk l (IntKind.wrap .i64 (i+2)) e2
  else none
 else
  some out
theorem MY (l i out):jd l i out=Ed jd l i out:=(l1 31 0 _).trans (by kernel_rfl)
def JD (wk:ae jd)(l:List Int):Option b6:=
 wk l 0 ([]:b6)
theorem RC (l):vQ l=JD jd l:=(e1 31 _).trans (by kernel_rfl)
end
end Go.Proofs.YtofjebmoebhiiaaGreatDoor.Ev
namespace Go.Proofs.YtofjebmoebhiiaaGreatDoor.Ev
open Go.Abs
noncomputable section
def pr (aj:ae ao)(ar:ae al)(a:ByteArray):Option (ByteArray):=
 (aj a).bind fun r0=>
 (ar (!r0.1) r0.2).bind fun r1=>
 some r1
theorem wm (a):bu a=pr ao al a:=(e1 66 _).trans (by kernel_rfl)
def qV (aj:ae ao)(fZ:ae c9)(a:ByteArray)(b:ByteArray):Option (Int):=
 (aj a).bind fun r0=>
 (aj b).bind fun r1=>
 bif (!(r0.1==r1.1)) then
  bif r0.1 then
   some (-1)
  else
   some 1
 else
  bif r0.1 then
   (fZ r1.2 r0.2).bind fun r2=>
   some r2
  else
   (fZ r0.2 r1.2).bind fun r3=>
   some r3
theorem xB (a b):bN a b=qV ao c9 a b:=(e1 104 _).trans (by kernel_rfl)
def kK (pw:ae dn)(px:ae cC)(p:Bool)(x:List Int)(q:Bool)(y:List Int)(i:Int)(out:List Int):Option (ByteArray):=
 bif (decide (i<(x.length:Int))) then
  pw p x q y i 0 out
 else
  px p q 0 out
theorem oa (p x q y i out):bw p x q y i out=kK dn cC p x q y i out:=(l1 105 0 _).trans (by kernel_rfl)
def kL (pw:ae dn)(kM:ae bw)(p:Bool)(x:List Int)(q:Bool)(y:List Int)(i:Int)(k:Int)(out:List Int):Option (ByteArray):=
 bif (decide (k<(y.length:Int))) then
  (idx out (IntKind.wrap .i64 (i+k))).bind fun _=>
  (out[(IntKind.wrap .i64 (i+k)).toNat]?).bind fun v0=>
  (idx x i).bind fun v1=>
  (idx y k).bind fun v2=>
  let e3:Int:=(IntKind.wrap .i64 (v0+(IntKind.wrap .i64 (v1*v2))))
  (idx out (IntKind.wrap .i64 (i+k))).bind fun _=>
  (out[(IntKind.wrap .i64 (i+k)).toNat]?).bind fun v4=>
  pw p x q y i (IntKind.wrap .i64 (k+1)) (out.set (IntKind.wrap .i64 (i+k)).toNat e3)
 else
  kM p x q y (IntKind.wrap .i64 (i+1)) out
theorem oc (p x q y i k out):dn p x q y i k out=kL dn bw p x q y i k out:=(l1 105 1 _).trans (by kernel_rfl)
def kN (px:ae cC)(ar:ae al)(p:Bool)(q:Bool)(i:Int)(out:List Int):Option (ByteArray):=
 bif (decide ((IntKind.wrap .i64 (i+1))<(out.length:Int))) then
  (idx out (IntKind.wrap .i64 (i+1))).bind fun _=>
  (out[(IntKind.wrap .i64 (i+1)).toNat]?).bind fun v0=>
  (idx out i).bind fun _=>
  (out[i.toNat]?).bind fun v1=>
  let e2:Int:=(IntKind.wrap .i64 (v0+(IntKind.wrap .i64 (v1.tdiv 10))))
  (idx out (IntKind.wrap .i64 (i+1))).bind fun _=>
  (out[(IntKind.wrap .i64 (i+1)).toNat]?).bind fun v3=>
  let e4:List Int:=(out.set (IntKind.wrap .i64 (i+1)).toNat e2)
  (idx e4 i).bind fun _=>
  (e4[i.toNat]?).bind fun v5=>
  (idx e4 i).bind fun _=>
  (e4[i.toNat]?).bind fun v6=>
  px p q (IntKind.wrap .i64 (i+1)) (e4.set i.toNat (v5.tmod 10))
 else
  (ar (!(p==q)) out).bind fun r7=>
  some r7
theorem od (p q i out):cC p q i out=kN cC al p q i out:=(l1 105 2 _).trans (by kernel_rfl)
def uk (kM:ae bw)(dT:ae df)(aR:ae bL)(aj:ae ao)(a:ByteArray)(b:ByteArray):Option (ByteArray):=
 (dT a).bind fun r0=>
 (dT b).bind fun r1=>
 bif r0.2 then
  bif r1.2 then
   (aR (IntKind.wrap .i64 (r0.1*r1.1))).bind fun r2=>
   some r2
  else
   (aj a).bind fun r3=>
   (aj b).bind fun r4=>
   let e5:Int:=(IntKind.wrap .i64 ((r3.2.length:Int)+(r4.2.length:Int)))
   bif (gL 8 (IntKind.wrap .i64 (e5+1)) (IntKind.wrap .i64 (e5+1))) then
   let e6:List Int:=(List.replicate (IntKind.wrap .i64 (e5+1)).toNat 0)
   kM r3.1 r3.2 r4.1 r4.2 0 e6
   else none
 else
  (aj a).bind fun r7=>
  (aj b).bind fun r8=>
  let e9:Int:=(IntKind.wrap .i64 ((r7.2.length:Int)+(r8.2.length:Int)))
  bif (gL 8 (IntKind.wrap .i64 (e9+1)) (IntKind.wrap .i64 (e9+1))) then
  let W6:List Int:=(List.replicate (IntKind.wrap .i64 (e9+1)).toNat 0)
  kM r7.1 r7.2 r8.1 r8.2 0 W6
  else none
theorem AT (a b):fB a b=uk bw df bL ao a b:=(e1 105 _).trans (by kernel_rfl)
def jx (ga:ae cR)(cO:ae bg)(a:ByteArray)(minus:Bool)(i:Int)(d:List Int):Option (Bool×List Int):=
 bif (decide (i≥0)) then
  (Af a i).bind fun v0=>
  bif (v0 != 45) then
   (Af a i).bind fun v1=>
   let e2:Int:=(IntKind.wrap .i64 ((IntKind.wrap .i64 v1) - 48))
   bif (aB 8 1 d.length 1) then
   ga a minus (IntKind.wrap .i64 (i - 1)) (d++([e2]:List Int))
   else none
  else
   ga a minus (IntKind.wrap .i64 (i - 1)) d
 else
  (cO d).bind fun r3=>
  some (minus,r3)
theorem np (a minus i d):cR a minus i d=jx cR bg a minus i d:=(l1 106 0 _).trans (by kernel_rfl)
def sG (ga:ae cR)(a:ByteArray):Option (Bool×List Int):=
 bif (decide ((a.size:Int)>0)) then
  (Af a 0).bind fun v0=>
  ga a (v0==45) (IntKind.wrap .i64 ((a.size:Int) - 1)) ([]:List Int)
 else
  ga a false (IntKind.wrap .i64 ((a.size:Int) - 1)) ([]:List Int)
theorem zA (a):ao a=sG cR a:=(e1 106 _).trans (by kernel_rfl)
def lR (lS:ae dL)(d:List Int)(i:Int)(out:List Int):Option (ByteArray):=
 bif (decide (i≥0)) then
  (idx d i).bind fun v0=>
  let e1:Int:=(IntKind.wrap .u8 (IntKind.wrap .i64 (48+v0)))
  bif (aB 1 1 out.length 1) then
  lS d (IntKind.wrap .i64 (i - 1)) (out++([e1]:List Int))
  else none
 else
  some (strOf out)
theorem py (d i out):dL d i out=lR dL d i out:=(l1 107 0 _).trans (by kernel_rfl)
def wo (lS:ae dL)(cO:ae bg)(minus:Bool)(d:List Int):Option (ByteArray):=
 (cO d).bind fun r0=>
 bif ((r0.length:Int)==0) then
  some (bs [48])
 else
  bif minus then
   bif (aB 1 1 0 1) then
   let e1:Int:=(IntKind.wrap .i64 ((r0.length:Int) - 1))
   lS r0 e1 (([]:List Int)++([45]:List Int))
   else none
  else
   let e2:Int:=(IntKind.wrap .i64 ((r0.length:Int) - 1))
   lS r0 e2 ([]:List Int)
theorem CI (minus d):al minus d=wo dL bg minus d:=(e1 107 _).trans (by kernel_rfl)
def jy (oe:ae cU)(ar:ae al)(q:Int)(d:List Int):Option (ByteArray):=
 bif (decide (q>0)) then
  bif (aB 8 1 d.length 1) then
  oe (IntKind.wrap .i64 (q.tdiv 10)) (d++([(q.tmod 10)]:List Int))
  else none
 else
  (ar true d).bind fun r0=>
  some r0
theorem nq (q d):cU q d=jy cU al q d:=(l1 139 0 _).trans (by kernel_rfl)
def jz (og:ae cV)(ar:ae al)(n:Int)(d:List Int):Option (ByteArray):=
 bif (decide (n>0)) then
  bif (aB 8 1 d.length 1) then
  og (IntKind.wrap .i64 (n.tdiv 10)) (d++([(n.tmod 10)]:List Int))
  else none
 else
  (ar false d).bind fun r0=>
  some r0
theorem nr (n d):cV n d=jz cV al n d:=(l1 139 1 _).trans (by kernel_rfl)
def sH (oe:ae cU)(og:ae cV)(n:Int):Option (ByteArray):=
 bif (decide (n<0)) then
  let e0:List Int:=([(IntKind.wrap .i64 (0 - (n.tmod 10)))]:List Int)
  bif (aB 8 1 0 1) then
  let e1:Int:=(IntKind.wrap .i64 (0 - (IntKind.wrap .i64 (n.tdiv 10))))
  oe e1 (([]:List Int)++e0)
  else none
 else
  og n ([]:List Int)
theorem zD (n):bL n=sH cU cV n:=(e1 139 _).trans (by kernel_rfl)
def wq (sI:ae eQ)(a:ByteArray):Option (Bool):=
 (sI a).bind fun r0=>
 some (decide (r0>1000))
theorem CJ (a):jg a=wq eQ a:=(e1 143 _).trans (by kernel_rfl)
def kO (bq:ae cD)(s:ByteArray)(i:Int):Option (Bool):=
 bif (decide (i<(s.size:Int))) then
  (Af s i).bind fun v0=>
  bif (decide (v0<48)) then
   some false
  else
   (Af s i).bind fun v1=>
   bif (decide (v1>57)) then
    some false
   else
    bq s (IntKind.wrap .i64 (i+1))
 else
  some true
theorem oh (s i):cD s i=kO cD s i:=(l1 144 0 _).trans (by kernel_rfl)
def um (bq:ae cD)(a:ByteArray):Option (Bool):=
 bif (decide ((a.size:Int)>0)) then
  (Af a 0).bind fun v0=>
  bif (v0==45) then
   bif (c7 a.size 1 (a.size:Int)) then
   let e1:Int:=((a.extract (1:Int).toNat (a.size:Int).toNat).size:Int)
   bif (decide (e1>0)) then
    (Af (a.extract (1:Int).toNat (a.size:Int).toNat) 0).bind fun v2=>
    bif (v2==48) then
     some false
    else
     let e3:Int:=((a.extract (1:Int).toNat (a.size:Int).toNat).size:Int)
     bif (e3==0) then
      some false
     else
      (Af (a.extract (1:Int).toNat (a.size:Int).toNat) 0).bind fun v4=>
      bif (v4==48) then
       let e5:Int:=((a.extract (1:Int).toNat (a.size:Int).toNat).size:Int)
       bif (decide (e5>1)) then
        some false
       else
        bq (a.extract (1:Int).toNat (a.size:Int).toNat) 0
      else
       bq (a.extract (1:Int).toNat (a.size:Int).toNat) 0
   else
    let e6:Int:=((a.extract (1:Int).toNat (a.size:Int).toNat).size:Int)
    bif (e6==0) then
     some false
    else
     (Af (a.extract (1:Int).toNat (a.size:Int).toNat) 0).bind fun v7=>
     bif (v7==48) then
      let e8:Int:=((a.extract (1:Int).toNat (a.size:Int).toNat).size:Int)
      bif (decide (e8>1)) then
       some false
      else
       bq (a.extract (1:Int).toNat (a.size:Int).toNat) 0
     else
      bq (a.extract (1:Int).toNat (a.size:Int).toNat) 0
   else none
  else
   bif ((a.size:Int)==0) then
    some false
   else
    (Af a 0).bind fun v9=>
    bif (v9==48) then
     bif (decide ((a.size:Int)>1)) then
      some false
     else
      bq a 0
    else
     bq a 0
 else
  bif ((a.size:Int)==0) then
   some false
  else
   (Af a 0).bind fun v10=>
   bif (v10==48) then
    bif (decide ((a.size:Int)>1)) then
     some false
    else
     bq a 0
   else
    bq a 0
theorem AU (a):j6 a=um cD a:=(e1 144 _).trans (by kernel_rfl)
def ns (nt:ae cw)(eV:ae du)(x:ByteArray)(y:ByteArray):Option (ByteArray):=
 bif (!(y.toList==(bs [48]).toList)) then
  (eV x y).bind fun r0=>
  nt y r0.2
 else
  some x
theorem tj (x y):cw x y=ns cw du x y:=(l1 145 0 _).trans (by kernel_rfl)
def qW (nt:ae cw)(xC:ae gD)(a:ByteArray)(b:ByteArray):Option (ByteArray):=
 (xC a).bind fun r0=>
 (xC b).bind fun r1=>
 nt r0 r1
theorem xD (a b):dN a b=qW cw gD a b:=(e1 145 _).trans (by kernel_rfl)
def lT (qX:ae dO)(a:List Int)(b:List Int)(i:Int):Option (Int):=
 bif (decide (i≥0)) then
  (idx a i).bind fun v0=>
  (idx b i).bind fun v1=>
  bif (decide (v0<v1)) then
   some (-1)
  else
   (idx a i).bind fun v2=>
   (idx b i).bind fun v3=>
   bif (decide (v2>v3)) then
    some 1
   else
    qX a b (IntKind.wrap .i64 (i - 1))
 else
  some 0
theorem pz (a b i):dO a b i=lT dO a b i:=(l1 146 0 _).trans (by kernel_rfl)
def wu (qX:ae dO)(a:List Int)(b:List Int):Option (Int):=
 bif ((a.length:Int) != (b.length:Int)) then
  bif (decide ((a.length:Int)<(b.length:Int))) then
   some (-1)
  else
   some 1
 else
  let e0:Int:=(IntKind.wrap .i64 ((a.length:Int) - 1))
  qX a b e0
theorem CK (a b):c9 a b=wu dO a b:=(e1 146 _).trans (by kernel_rfl)
def kP (kQ:ae dr)(a:ByteArray)(n:Int)(i:Int):Option (Int×Bool):=
 bif (decide (i<(a.size:Int))) then
  (Af a i).bind fun v0=>
  bif (v0 != 45) then
   (Af a i).bind fun v1=>
   let e2:Int:=(IntKind.wrap .i64 ((IntKind.wrap .i64 (10*n))+(IntKind.wrap .i64 v1)))
   kQ a (IntKind.wrap .i64 (e2 - 48)) (IntKind.wrap .i64 (i+1))
  else
   kQ a n (IntKind.wrap .i64 (i+1))
 else
  bif (decide ((a.size:Int)>0)) then
   (Af a 0).bind fun v3=>
   bif (v3==45) then
    some ((IntKind.wrap .i64 (0 - n)),true)
   else
    some (n,true)
  else
   some (n,true)
theorem oi (a n i):dr a n i=kP dr a n i:=(l1 147 0 _).trans (by kernel_rfl)
def uo (kQ:ae dr)(sI:ae eQ)(a:ByteArray):Option (Int×Bool):=
 (sI a).bind fun r0=>
 bif (decide (r0>9)) then
  some (0,false)
 else
  kQ a 0 0
theorem AW (a):df a=uo dr eQ a:=(e1 147 _).trans (by kernel_rfl)
def lU (qY:ae dP)(d:List Int):Option (List Int):=
 bif (decide ((d.length:Int)>0)) then
  let e0:Int:=(IntKind.wrap .i64 ((d.length:Int) - 1))
  (idx d e0).bind fun v1=>
  bif (v1==0) then
   let e2:Int:=(IntKind.wrap .i64 ((d.length:Int) - 1))
   bif (c7 d.length 0 e2) then
   qY (cut d 0 e2)
   else none
  else
   some d
 else
  some d
theorem pA (d):dP d=lU dP d:=(l1 148 0 _).trans (by kernel_rfl)
def wx (qY:ae dP)(d:List Int):Option (List Int):=
 qY d
theorem CL (d):bg d=wx dP d:=(e1 148 _).trans (by kernel_rfl)
def iy (mq:ae cj)(mr:ae aH)(cO:ae bg)(b:ByteArray)(p:Bool)(x:List Int)(s:Bool)(y:List Int)(r:List Int)(i:Int)(q:List Int):Option (ByteArray×ByteArray):=
 bif (decide (i≥0)) then
  (idx x i).bind fun v0=>
  bif (aB 8 1 1 r.length) then
  (cO (([v0]:List Int)++r)).bind fun r1=>
  mq b p x s y r1 i 0 q
  else none
 else
  mr b p s r 0 q
theorem lv (b p x s y r i q):bk b p x s y r i q=iy cj aH bg b p x s y r i q:=(l1 161 0 _).trans (by kernel_rfl)
def mu (mq:ae cj)(iz:ae bk)(fZ:ae c9)(dG:ae aW)(b:ByteArray)(p:Bool)(x:List Int)(s:Bool)(y:List Int)(r:List Int)(i:Int)(k:Int)(q:List Int):Option (ByteArray×ByteArray):=
 (fZ r y).bind fun r0=>
 bif (decide (r0≥0)) then
  (dG r y).bind fun r1=>
  mq b p x s y r1 i (IntKind.wrap .i64 (k+1)) q
 else
  bif (aB 8 1 q.length 1) then
  iz b p x s y r (IntKind.wrap .i64 (i - 1)) (q++([k]:List Int))
  else none
theorem si (b p x s y r i k q):cj b p x s y r i k q=mu cj bk c9 aW b p x s y r i k q:=(l1 161 1 _).trans (by kernel_rfl)
def iA (mr:ae aH)(ar:ae al)(MZ:ae j7)(wy:ae gI)(b:ByteArray)(p:Bool)(s:Bool)(r:List Int)(i:Int)(q:List Int):Option (ByteArray×ByteArray):=
 let e0:Int:=(IntKind.wrap .i64 ((q.length:Int).tdiv 2))
 bif (decide (i<e0)) then
  let e1:Int:=(IntKind.wrap .i64 ((q.length:Int) - 1))
  let e2:Int:=(IntKind.wrap .i64 ((q.length:Int) - 1))
  (idx q (IntKind.wrap .i64 (e2 - i))).bind fun _=>
  (q[(IntKind.wrap .i64 (e2 - i)).toNat]?).bind fun v3=>
  (idx q i).bind fun _=>
  (q[i.toNat]?).bind fun v4=>
  (idx q i).bind fun _=>
  (q[i.toNat]?).bind fun v5=>
  (idx (q.set i.toNat v3) (IntKind.wrap .i64 (e1 - i))).bind fun _=>
  ((q.set i.toNat v3)[(IntKind.wrap .i64 (e1 - i)).toNat]?).bind fun v6=>
  let e7:List Int:=((q.set i.toNat v3).set (IntKind.wrap .i64 (e1 - i)).toNat v4)
  mr b p s r (IntKind.wrap .i64 (i+1)) e7
 else
  (ar (!(p==s)) q).bind fun r8=>
  (ar p r).bind fun r9=>
  bif (!(r9.toList==(bs [48]).toList)) then
   bif (!(p==s)) then
    (MZ r8 (bs [49])).bind fun NF=>
    (wy r9 b).bind fun r11=>
    some (NF,r11)
   else
    some (r8,r9)
  else
   some (r8,r9)
theorem lx (b p s r i q):aH b p s r i q=iA aH al j7 gI b p s r i q:=(l1 161 2 _).trans (by kernel_rfl)
def pB (iz:ae bk)(dT:ae df)(aR:ae bL)(aj:ae ao)(cO:ae bg)(a:ByteArray)(b:ByteArray):Option (ByteArray×ByteArray):=
 (dT a).bind fun r0=>
 (dT b).bind fun r1=>
 bif r0.2 then
  bif r1.2 then
   bif (!(r1.1==0)) then
   bif (!(r1.1==0)) then
   bif ((r0.1.tmod r1.1) != 0) then
    bif (!((decide ((r0.1.tmod r1.1)<0))==(decide (r1.1<0)))) then
     let e2:Int:=(IntKind.wrap .i64 ((IntKind.wrap .i64 (r0.1.tdiv r1.1)) - 1))
     (aR e2).bind fun r3=>
     (aR (IntKind.wrap .i64 ((r0.1.tmod r1.1)+r1.1))).bind fun r4=>
     some (r3,r4)
    else
     (aR (IntKind.wrap .i64 (r0.1.tdiv r1.1))).bind fun r5=>
     (aR (r0.1.tmod r1.1)).bind fun r6=>
     some (r5,r6)
   else
    (aR (IntKind.wrap .i64 (r0.1.tdiv r1.1))).bind fun r7=>
    (aR (r0.1.tmod r1.1)).bind fun r8=>
    some (r7,r8)
   else none
   else none
  else
   (aj a).bind fun r9=>
   (aj b).bind fun NF=>
   let Te:Int:=(IntKind.wrap .i64 ((NF.2.length:Int) - 1))
   let e12:Int:=(bif decide (Te>0) then Te else 0)
   let Xc:Int:=(bif decide ((IntKind.wrap .i64 ((r9.2.length:Int) - e12))>0) then (IntKind.wrap .i64 ((r9.2.length:Int) - e12)) else 0)
   bif (c7 r9.2.length Xc (r9.2.length:Int)) then
   bif (aB 8 1 0 (cut r9.2 Xc (r9.2.length:Int)).length) then
   let e14:List Int:=(([]:List Int)++(cut r9.2 Xc (r9.2.length:Int)))
   (cO e14).bind fun r15=>
   iz b r9.1 r9.2 NF.1 NF.2 r15 (IntKind.wrap .i64 (Xc - 1)) ([]:List Int)
   else none
   else none
 else
  (aj a).bind fun r16=>
  (aj b).bind fun r17=>
  let e18:Int:=(IntKind.wrap .i64 ((r17.2.length:Int) - 1))
  let e19:Int:=(bif decide (e18>0) then e18 else 0)
  let e20:Int:=(bif decide ((IntKind.wrap .i64 ((r16.2.length:Int) - e19))>0) then (IntKind.wrap .i64 ((r16.2.length:Int) - e19)) else 0)
  bif (c7 r16.2.length e20 (r16.2.length:Int)) then
  bif (aB 8 1 0 (cut r16.2 e20 (r16.2.length:Int)).length) then
  let e21:List Int:=(([]:List Int)++(cut r16.2 e20 (r16.2.length:Int)))
  (cO e21).bind fun r22=>
  iz b r16.1 r16.2 r17.1 r17.2 r22 (IntKind.wrap .i64 (e20 - 1)) ([]:List Int)
  else none
  else none
theorem wz (a b):du a b=pB bk df bL ao bg a b:=(e1 161 _).trans (by kernel_rfl)
def sJ (a:ByteArray):Option (Int):=
 bif (decide ((a.size:Int)>0)) then
  (Af a 0).bind fun v0=>
  bif (v0==45) then
   some (IntKind.wrap .i64 ((a.size:Int) - 1))
  else
   some (a.size:Int)
 else
  some (a.size:Int)
theorem zE (a):eQ a=sJ a:=(e1 162 _).trans (by kernel_rfl)
def pC (aj:ae ao)(ar:ae al)(a:ByteArray):Option (ByteArray):=
 (aj a).bind fun r0=>
 (ar false r0.2).bind fun r1=>
 some r1
theorem wA (a):gD a=pC ao al a:=(e1 163 _).trans (by kernel_rfl)
def gd (cL:ae bD)(cO:ae bg)(a:List Int)(b:List Int)(borrow:Int)(i:Int)(out:List Int):Option (List Int):=
 bif (decide (i<(a.length:Int))) then
  (idx a i).bind fun v0=>
  bif (decide (i<(b.length:Int))) then
   (idx b i).bind fun v1=>
   let e2:Int:=(IntKind.wrap .i64 ((IntKind.wrap .i64 (v0 - borrow)) - v1))
   bif (decide (e2<0)) then
    let e3:List Int:=([(IntKind.wrap .i64 (e2+10))]:List Int)
    bif (aB 8 1 out.length 1) then
    cL a b 1 (IntKind.wrap .i64 (i+1)) (out++e3)
    else none
   else
    bif (aB 8 1 out.length 1) then
    cL a b 0 (IntKind.wrap .i64 (i+1)) (out++([e2]:List Int))
    else none
  else
   bif (decide ((IntKind.wrap .i64 (v0 - borrow))<0)) then
    let e4:Int:=(IntKind.wrap .i64 ((IntKind.wrap .i64 (v0 - borrow))+10))
    bif (aB 8 1 out.length 1) then
    cL a b 1 (IntKind.wrap .i64 (i+1)) (out++([e4]:List Int))
    else none
   else
    bif (aB 8 1 out.length 1) then
    let e5:List Int:=(out++([(IntKind.wrap .i64 (v0 - borrow))]:List Int))
    cL a b 0 (IntKind.wrap .i64 (i+1)) e5
    else none
 else
  (cO out).bind fun r6=>
  some r6
theorem jA (a b borrow i out):bD a b borrow i out=gd bD bg a b borrow i out:=(l1 173 0 _).trans (by kernel_rfl)
def nu (cL:ae bD)(a:List Int)(b:List Int):Option (List Int):=
 cL a b 0 0 ([]:List Int)
theorem tk (a b):aW a b=nu bD a b:=(e1 173 _).trans (by kernel_rfl)
def uq (dz:ae bu)(wy:ae gI)(a:ByteArray)(b:ByteArray):Option (ByteArray):=
 (dz b).bind fun r0=>
 (wy a r0).bind fun r1=>
 some r1
theorem AX (a b):j7 a b=uq bu gI a b:=(e1 174 _).trans (by kernel_rfl)
def wB (dT:ae df)(aR:ae bL)(aj:ae ao)(F3:ae iM)(ar:ae al)(fZ:ae c9)(dG:ae aW)(a:ByteArray)(b:ByteArray):Option (ByteArray):=
 (dT a).bind fun r0=>
 (dT b).bind fun r1=>
 bif r0.2 then
  bif r1.2 then
   (aR (IntKind.wrap .i64 (r0.1+r1.1))).bind fun r2=>
   some r2
  else
   (aj a).bind fun r3=>
   (aj b).bind fun r4=>
   bif (r3.1==r4.1) then
    (F3 r3.2 r4.2).bind fun r5=>
    (ar r3.1 r5).bind fun r6=>
    some r6
   else
    (fZ r3.2 r4.2).bind fun r7=>
    bif (decide (r7<0)) then
     (dG r4.2 r3.2).bind fun r8=>
     (ar r4.1 r8).bind fun r9=>
     some r9
    else
     (dG r3.2 r4.2).bind fun NF=>
     (ar r3.1 NF).bind fun r11=>
     some r11
 else
  (aj a).bind fun r12=>
  (aj b).bind fun r13=>
  bif (r12.1==r13.1) then
   (F3 r12.2 r13.2).bind fun r14=>
   (ar r12.1 r14).bind fun r15=>
   some r15
  else
   (fZ r12.2 r13.2).bind fun r16=>
   bif (decide (r16<0)) then
    (dG r13.2 r12.2).bind fun r17=>
    (ar r13.1 r17).bind fun r18=>
    some r18
   else
    (dG r12.2 r13.2).bind fun r19=>
    (ar r12.1 r19).bind fun r20=>
    some r20
theorem CM (a b):gI a b=wB df bL ao iM al c9 aW a b:=(e1 175 _).trans (by kernel_rfl)
def jo (aK:ae eR)(a:List Int)(b:List Int)(carry:Int)(i:Int)(out:List Int):Option (List Int):=
 bif (decide (i<(a.length:Int))) then
  bif (decide (i<(a.length:Int))) then
   (idx a i).bind fun v0=>
   bif (decide (i<(b.length:Int))) then
    (idx b i).bind fun v1=>
    let e2:Int:=(IntKind.wrap .i64 ((IntKind.wrap .i64 (carry+v0))+v1))
    bif (aB 8 1 out.length 1) then
    aK a b (IntKind.wrap .i64 (e2.tdiv 10)) (IntKind.wrap .i64 (i+1)) (out++([(e2.tmod 10)]:List Int))
    else none
   else
    let e3:Int:=((IntKind.wrap .i64 (carry+v0)).tmod 10)
    bif (aB 8 1 out.length 1) then
    let e4:Int:=(IntKind.wrap .i64 ((IntKind.wrap .i64 (carry+v0)).tdiv 10))
    aK a b e4 (IntKind.wrap .i64 (i+1)) (out++([e3]:List Int))
    else none
  else
   bif (decide (i<(b.length:Int))) then
    (idx b i).bind fun v5=>
    let e6:Int:=((IntKind.wrap .i64 (carry+v5)).tmod 10)
    bif (aB 8 1 out.length 1) then
    let e7:Int:=(IntKind.wrap .i64 ((IntKind.wrap .i64 (carry+v5)).tdiv 10))
    aK a b e7 (IntKind.wrap .i64 (i+1)) (out++([e6]:List Int))
    else none
   else
    bif (aB 8 1 out.length 1) then
    aK a b (IntKind.wrap .i64 (carry.tdiv 10)) (IntKind.wrap .i64 (i+1)) (out++([(carry.tmod 10)]:List Int))
    else none
 else
  bif (decide (i<(b.length:Int))) then
   bif (decide (i<(a.length:Int))) then
    (idx a i).bind fun v8=>
    bif (decide (i<(b.length:Int))) then
     (idx b i).bind fun v9=>
     let W6:Int:=(IntKind.wrap .i64 ((IntKind.wrap .i64 (carry+v8))+v9))
     bif (aB 8 1 out.length 1) then
     aK a b (IntKind.wrap .i64 (W6.tdiv 10)) (IntKind.wrap .i64 (i+1)) (out++([(W6.tmod 10)]:List Int))
     else none
    else
     let Te:Int:=((IntKind.wrap .i64 (carry+v8)).tmod 10)
     bif (aB 8 1 out.length 1) then
     let e12:Int:=(IntKind.wrap .i64 ((IntKind.wrap .i64 (carry+v8)).tdiv 10))
     aK a b e12 (IntKind.wrap .i64 (i+1)) (out++([Te]:List Int))
     else none
   else
    bif (decide (i<(b.length:Int))) then
     (idx b i).bind fun v13=>
     let e14:Int:=((IntKind.wrap .i64 (carry+v13)).tmod 10)
     bif (aB 8 1 out.length 1) then
     let e15:Int:=(IntKind.wrap .i64 ((IntKind.wrap .i64 (carry+v13)).tdiv 10))
     aK a b e15 (IntKind.wrap .i64 (i+1)) (out++([e14]:List Int))
     else none
    else
     bif (aB 8 1 out.length 1) then
     aK a b (IntKind.wrap .i64 (carry.tdiv 10)) (IntKind.wrap .i64 (i+1)) (out++([(carry.tmod 10)]:List Int))
     else none
  else
   bif (decide (carry>0)) then
    bif (decide (i<(a.length:Int))) then
     (idx a i).bind fun v16=>
     bif (decide (i<(b.length:Int))) then
      (idx b i).bind fun v17=>
      let e18:Int:=(IntKind.wrap .i64 ((IntKind.wrap .i64 (carry+v16))+v17))
      bif (aB 8 1 out.length 1) then
      aK a b (IntKind.wrap .i64 (e18.tdiv 10)) (IntKind.wrap .i64 (i+1)) (out++([(e18.tmod 10)]:List Int))
      else none
     else
      let e19:Int:=((IntKind.wrap .i64 (carry+v16)).tmod 10)
      bif (aB 8 1 out.length 1) then
      let e20:Int:=(IntKind.wrap .i64 ((IntKind.wrap .i64 (carry+v16)).tdiv 10))
      aK a b e20 (IntKind.wrap .i64 (i+1)) (out++([e19]:List Int))
      else none
    else
     bif (decide (i<(b.length:Int))) then
      (idx b i).bind fun v21=>
      let e22:Int:=((IntKind.wrap .i64 (carry+v21)).tmod 10)
      bif (aB 8 1 out.length 1) then
      let e23:Int:=(IntKind.wrap .i64 ((IntKind.wrap .i64 (carry+v21)).tdiv 10))
      aK a b e23 (IntKind.wrap .i64 (i+1)) (out++([e22]:List Int))
      else none
     else
      bif (aB 8 1 out.length 1) then
      aK a b (IntKind.wrap .i64 (carry.tdiv 10)) (IntKind.wrap .i64 (i+1)) (out++([(carry.tmod 10)]:List Int))
      else none
   else
    some out
theorem lV (a b carry i out):eR a b carry i out=jo eR a b carry i out:=(l1 179 0 _).trans (by kernel_rfl)
def yD (aK:ae eR)(a:List Int)(b:List Int):Option (List Int):=
 aK a b 0 0 ([]:List Int)
theorem Ee (a b):iM a b=yD eR a b:=(e1 179 _).trans (by kernel_rfl)
end
end Go.Proofs.YtofjebmoebhiiaaGreatDoor.Ev
namespace Go.Proofs.YtofjebmoebhiiaaGreatDoor.Ev
open Go.Abs
noncomputable section
def xE (cm:ae bJ)(dz:ae bu)(a:ByteArray):Option (ByteArray):=
 (cm a).bind fun r0=>
 bif (!r0.2.2) then
  (dz r0.1).bind fun r1=>
  some r1
 else
  (dz r0.1).bind fun r2=>
  bif (Nat.ble (r2.size+(bs [47]).size) 9223372036854775807) then
  bif (Nat.ble ((r2++(bs [47])).size+r0.2.1.size) 9223372036854775807) then
  some ((r2++(bs [47]))++r0.2.1)
  else none
  else none
theorem Hq (a):jm a=xE bJ bu a:=(e1 39 _).trans (by kernel_rfl)
def ur (OD:ae lC)(RD:ae pj)(a:ByteArray):Option (Bool):=
 (OD a).bind fun r0=>
 bif (!r0) then
  (RD a).bind fun r1=>
  some r1
 else
  some false
theorem AY (a):dd a=ur lC pj a:=(e1 61 _).trans (by kernel_rfl)
def qZ (cm:ae bJ)(bE:ae bN)(dV:ae fB)(a:ByteArray)(b:ByteArray):Option (Int):=
 bif (a.toList==(bs [105,110,102]).toList) then
  bif (b.toList==(bs [105,110,102]).toList) then
   some 0
  else
   bif (a.toList==(bs [105,110,102]).toList) then
    some 1
   else
    bif (b.toList==(bs [105,110,102]).toList) then
     some (-1)
    else
     (cm a).bind fun r0=>
     (cm b).bind fun r1=>
     bif (r0.2.1.toList==(bs [49]).toList) then
      bif (r1.2.1.toList==(bs [49]).toList) then
       (bE r0.1 r1.1).bind fun r2=>
       some r2
      else
       (dV r0.1 r1.2.1).bind fun r3=>
       (dV r1.1 r0.2.1).bind fun r4=>
       (bE r3 r4).bind fun r5=>
       some r5
     else
      (dV r0.1 r1.2.1).bind fun r6=>
      (dV r1.1 r0.2.1).bind fun r7=>
      (bE r6 r7).bind fun r8=>
      some r8
 else
  bif (a.toList==(bs [105,110,102]).toList) then
   some 1
  else
   bif (b.toList==(bs [105,110,102]).toList) then
    some (-1)
   else
    (cm a).bind fun r9=>
    (cm b).bind fun NF=>
    bif (r9.2.1.toList==(bs [49]).toList) then
     bif (NF.2.1.toList==(bs [49]).toList) then
      (bE r9.1 NF.1).bind fun r11=>
      some r11
     else
      (dV r9.1 NF.2.1).bind fun r12=>
      (dV NF.1 r9.2.1).bind fun r13=>
      (bE r12 r13).bind fun r14=>
      some r14
    else
     (dV r9.1 NF.2.1).bind fun r15=>
     (dV NF.1 r9.2.1).bind fun r16=>
     (bE r15 r16).bind fun r17=>
     some r17
theorem xF (a b):bb a b=qZ bJ bN fB a b:=(e1 64 _).trans (by kernel_rfl)
def kR (pD:ae dk)(a:ByteArray)(i:Int):Option (ByteArray×ByteArray×Bool):=
 bif (decide (i<(a.size:Int))) then
  (Af a i).bind fun v0=>
  bif (v0==47) then
   bif (c7 a.size 0 i) then
   bif (c7 a.size (IntKind.wrap .i64 (i+1)) (a.size:Int)) then
   let e1:ByteArray:=(a.extract (IntKind.wrap .i64 (i+1)).toNat (a.size:Int).toNat)
   some ((a.extract (0:Int).toNat i.toNat),e1,true)
   else none
   else none
  else
   pD a (IntKind.wrap .i64 (i+1))
 else
  some (a,(bs [49]),false)
theorem oo (a i):dk a i=kR dk a i:=(l1 65 0 _).trans (by kernel_rfl)
def uv (pD:ae dk)(a:ByteArray):Option (ByteArray×ByteArray×Bool):=
 pD a 0
theorem AZ (a):bJ a=uv dk a:=(e1 65 _).trans (by kernel_rfl)
def xG (aR:ae bL)(JE:ae kl)(a:Int)(b:Int):Option (ByteArray):=
 (aR a).bind fun r0=>
 (aR b).bind fun r1=>
 (JE r0 r1).bind fun r2=>
 some r2
theorem Hr (a b):gz a b=xG bL kl a b:=(e1 95 _).trans (by kernel_rfl)
def wC (cm:ae bJ)(Ef:ae jg)(a:ByteArray):Option (Bool):=
 (cm a).bind fun r0=>
 (Ef r0.1).bind fun r1=>
 bif r1 then
  some true
 else
  (Ef r0.2.1).bind fun r2=>
  some r2
theorem CN (a):lC a=wC bJ jg a:=(e1 102 _).trans (by kernel_rfl)
def AB (cm:ae bJ)(CO:ae j6)(bE:ae bN)(lW:ae dN)(a:ByteArray):Option (Bool):=
 (cm a).bind fun r0=>
 (CO r0.1).bind fun r1=>
 bif (!r1) then
  some false
 else
  bif (!r0.2.2) then
   some true
  else
   (CO r0.2.1).bind fun r2=>
   bif r2 then
    bif (!(r0.1.toList==(bs [48]).toList)) then
     (bE r0.2.1 (bs [50])).bind fun r3=>
     bif (decide (r3≥0)) then
      (lW r0.1 r0.2.1).bind fun r4=>
      some (r4.toList==(bs [49]).toList)
     else
      some false
    else
     some false
   else
    some false
theorem F4 (a):pj a=AB bJ j6 bN dN a:=(e1 103 _).trans (by kernel_rfl)
def zF (bE:ae bN)(dz:ae bu)(lW:ae dN)(eV:ae du)(n:ByteArray)(d:ByteArray):Option (ByteArray):=
 (bE d (bs [48])).bind fun r0=>
 bif (decide (r0<0)) then
  (dz n).bind fun r1=>
  (dz d).bind fun r2=>
  (lW r1 r2).bind fun r3=>
  bif (!(r3.toList==(bs [49]).toList)) then
   (eV r1 r3).bind fun r4=>
   (eV r2 r3).bind fun r5=>
   bif (r5.1.toList==(bs [49]).toList) then
    some r4.1
   else
    bif (Nat.ble (r4.1.size+(bs [47]).size) 9223372036854775807) then
    bif (Nat.ble ((r4.1++(bs [47])).size+r5.1.size) 9223372036854775807) then
    some ((r4.1++(bs [47]))++r5.1)
    else none
    else none
  else
   bif (r2.toList==(bs [49]).toList) then
    some r1
   else
    bif (Nat.ble (r1.size+(bs [47]).size) 9223372036854775807) then
    bif (Nat.ble ((r1++(bs [47])).size+r2.size) 9223372036854775807) then
    some ((r1++(bs [47]))++r2)
    else none
    else none
 else
  (lW n d).bind fun r6=>
  bif (!(r6.toList==(bs [49]).toList)) then
   (eV n r6).bind fun r7=>
   (eV d r6).bind fun r8=>
   bif (r8.1.toList==(bs [49]).toList) then
    some r7.1
   else
    bif (Nat.ble (r7.1.size+(bs [47]).size) 9223372036854775807) then
    bif (Nat.ble ((r7.1++(bs [47])).size+r8.1.size) 9223372036854775807) then
    some ((r7.1++(bs [47]))++r8.1)
    else none
    else none
  else
   bif (d.toList==(bs [49]).toList) then
    some n
   else
    bif (Nat.ble (n.size+(bs [47]).size) 9223372036854775807) then
    bif (Nat.ble ((n++(bs [47])).size+d.size) 9223372036854775807) then
    some ((n++(bs [47]))++d)
    else none
    else none
theorem Iz (n d):kl n d=zF bN bu dN du n d:=(e1 138 _).trans (by kernel_rfl)
end
end Go.Proofs.YtofjebmoebhiiaaGreatDoor.Ev
namespace Go.Proofs.YtofjebmoebhiiaaGreatDoor.Ev
open Go.Abs
noncomputable section
def jB (oq:ae cP)(JF:ae il)(s:List Int)(i:Int)(out:List (List Int)):Option (List (List Int)):=
 bif (decide ((s.length:Int)>1)) then
  bif (decide (i<(s.length:Int))) then
   (JF s i).bind fun r0=>
   bif (aB 24 1 out.length 1) then
   oq s (IntKind.wrap .i64 (i+1)) (out++([r0]:List (List Int)))
   else none
  else
   some out
 else
  some out
theorem nv (s i out):cP s i out=jB cP il s i out:=(l1 58 0 _).trans (by kernel_rfl)
def sK (oq:ae cP)(s:List Int):Option (List (List Int)):=
 oq s 0 ([]:List (List Int))
theorem zG (s):bK s=sK cP s:=(e1 58 _).trans (by kernel_rfl)
def mJ (sL:ae eN)(a:List Int)(b:List Int)(i:Int):Option (Int):=
 bif (decide (i<(a.length:Int))) then
  (idx a i).bind fun v0=>
  (idx b i).bind fun v1=>
  bif (decide (v0<v1)) then
   some (-1)
  else
   (idx a i).bind fun v2=>
   (idx b i).bind fun v3=>
   bif (decide (v2>v3)) then
    some 1
   else
    sL a b (IntKind.wrap .i64 (i+1))
 else
  some 0
theorem q6 (a b i):eN a b i=mJ eN a b i:=(l1 59 0 _).trans (by kernel_rfl)
def yE (sL:ae eN)(a:List Int)(b:List Int):Option (Int):=
 bif ((a.length:Int) != (b.length:Int)) then
  bif (decide ((a.length:Int)<(b.length:Int))) then
   some (-1)
  else
   some 1
 else
  sL a b 0
theorem Eg (a b):aV a b=yE eN a b:=(e1 59 _).trans (by kernel_rfl)
def pE (kS:ae gw)(AD:ae pn)(mK:ae iU)(l:List Int)(most:Int)(n:Int)(i:Int)(out:List Int):Option (List Int):=
 bif (decide (i<(l.length:Int))) then
  bif (decide ((out.length:Int)<most)) then
   (idx l i).bind fun v0=>
   bif (!(n==0)) then
   bif (!(n==0)) then
   (AD out ((IntKind.wrap .i64 ((v0.tmod n)+n)).tmod n)).bind fun r1=>
   bif (!r1) then
    let e2:List Int:=([((IntKind.wrap .i64 ((v0.tmod n)+n)).tmod n)]:List Int)
    bif (aB 8 1 out.length 1) then
    kS l most n (IntKind.wrap .i64 (i+1)) (out++e2)
    else none
   else
    kS l most n (IntKind.wrap .i64 (i+1)) out
   else none
   else none
  else
   bif ((out.length:Int)==0) then
    bif (aB 8 1 out.length 1) then
    (mK (out++([0]:List Int))).bind fun r3=>
    some r3.1
    else none
   else
    (mK out).bind fun r4=>
    some r4.1
 else
  bif ((out.length:Int)==0) then
   bif (aB 8 1 out.length 1) then
   (mK (out++([0]:List Int))).bind fun r5=>
   some r5.1
   else none
  else
   (mK out).bind fun r6=>
   some r6.1
theorem wD (l most n i out):gw l most n i out=pE gw pn iU l most n i out:=(l1 93 0 _).trans (by kernel_rfl)
def CP (kS:ae gw)(l:List Int)(most:Int)(n:Int):Option (List Int):=
 kS l most n 0 ([]:List Int)
theorem K8 (l most n):rP l most n=CP gw l most n:=(e1 93 _).trans (by kernel_rfl)
def sM (sN:ae iS)(AD:ae pn)(a:List Int)(b:List Int)(i:Int):Option (Bool):=
 bif (decide (i<(b.length:Int))) then
  (idx b i).bind fun v0=>
  (AD a v0).bind fun r1=>
  bif (!r1) then
   some false
  else
   sN a b (IntKind.wrap .i64 (i+1))
 else
  some true
theorem zJ (a b i):iS a b i=sM iS pn a b i:=(l1 97 0 _).trans (by kernel_rfl)
def F5 (sN:ae iS)(a:List Int)(b:List Int):Option (Bool):=
 sN a b 0
theorem OE (a b):vR a b=F5 iS a b:=(e1 97 _).trans (by kernel_rfl)
def iZ (i6:ae cu)(s:List Int)(k:Int)(i:Int)(out:List Int):Option (List Int):=
 bif (decide (i<(s.length:Int))) then
  bif (i != k) then
   (idx s i).bind fun v0=>
   bif (aB 8 1 out.length 1) then
   i6 s k (IntKind.wrap .i64 (i+1)) (out++([v0]:List Int))
   else none
  else
   i6 s k (IntKind.wrap .i64 (i+1)) out
 else
  some out
theorem mv (s k i out):cu s k i out=iZ cu s k i out:=(l1 101 0 _).trans (by kernel_rfl)
def q7 (i6:ae cu)(s:List Int)(k:Int):Option (List Int):=
 i6 s k 0 ([]:List Int)
theorem xH (s k):il s k=q7 cu s k:=(e1 101 _).trans (by kernel_rfl)
def uw (ux:ae j0)(a:List Int)(v:Int)(i:Int):Option (Bool):=
 bif (decide (i<(a.length:Int))) then
  (idx a i).bind fun v0=>
  bif (v0==v) then
   some true
  else
   ux a v (IntKind.wrap .i64 (i+1))
 else
  some false
theorem A0 (a v i):j0 a v i=uw j0 a v i:=(l1 134 0 _).trans (by kernel_rfl)
def HW (ux:ae j0)(a:List Int)(v:Int):Option (Bool):=
 ux a v 0
theorem P0 (a v):pn a v=HW j0 a v:=(e1 134 _).trans (by kernel_rfl)
def ot (ou:ae fD)(n:Int)(i:Int)(out:List Int):Option ((List Int)×Int):=
 bif (decide (i<(out.length:Int))) then
  ou n i i out
 else
  some (out,n)
theorem va (n i out):dM n i out=ot fD n i out:=(l1 135 0 _).trans (by kernel_rfl)
def ov (ou:ae fD)(jC:ae dM)(n:Int)(i:Int)(k:Int)(out:List Int):Option ((List Int)×Int):=
 bif (decide (k>0)) then
  (idx out (IntKind.wrap .i64 (k - 1))).bind fun _=>
  (out[(IntKind.wrap .i64 (k - 1)).toNat]?).bind fun v0=>
  (idx out k).bind fun _=>
  (out[k.toNat]?).bind fun v1=>
  bif (decide (v0>v1)) then
   (idx out k).bind fun _=>
   (out[k.toNat]?).bind fun v2=>
   (idx out (IntKind.wrap .i64 (k - 1))).bind fun _=>
   (out[(IntKind.wrap .i64 (k - 1)).toNat]?).bind fun v3=>
   (idx out (IntKind.wrap .i64 (k - 1))).bind fun _=>
   (out[(IntKind.wrap .i64 (k - 1)).toNat]?).bind fun v4=>
   let e5:List Int:=(out.set (IntKind.wrap .i64 (k - 1)).toNat v2)
   (idx e5 k).bind fun _=>
   (e5[k.toNat]?).bind fun v6=>
   ou (IntKind.wrap .i64 (1 - n)) i (IntKind.wrap .i64 (k - 1)) (e5.set k.toNat v3)
  else
   jC n (IntKind.wrap .i64 (i+1)) out
 else
  jC n (IntKind.wrap .i64 (i+1)) out
theorem vb (n i k out):fD n i k out=ov fD dM n i k out:=(l1 135 1 _).trans (by kernel_rfl)
def A3 (jC:ae dM)(l:List Int):Option ((List Int)×Int):=
 bif (aB 8 1 0 l.length) then
 jC 0 0 (([]:List Int)++l)
 else none
theorem JH (l):iU l=A3 dM l:=(e1 135 _).trans (by kernel_rfl)
def xI (kT:ae gB)(s:List Int)(m:Int)(out:List (List Int)):Option (List (List Int)):=
 bif (decide (0≤(s.length:Int))) then
 bif (decide (m<(shl .i64 1 (s.length:Int)))) then
  kT s m 0 out ([]:List Int)
 else
  some out
 else none
theorem Hs (s m out):ss s m out=xI gB s m out:=(l1 136 0 _).trans (by kernel_rfl)
def pF (kT:ae gB)(ow:ae cS)(iq:ae fa)(s:List Int)(m:Int)(i:Int)(out:List (List Int))(f:List Int):Option (List (List Int)):=
 bif (decide (i<(s.length:Int))) then
  bif (decide (0≤i)) then
  bif (((shr .i64 m i).tmod 2)==1) then
   (idx s i).bind fun v0=>
   bif (aB 8 1 f.length 1) then
   kT s m (IntKind.wrap .i64 (i+1)) out (f++([v0]:List Int))
   else none
  else
   kT s m (IntKind.wrap .i64 (i+1)) out f
  else none
 else
  (iq out f).bind fun r1=>
  ow s r1 (IntKind.wrap .i64 (m+1))
theorem wE (s m i out f):gB s m i out f=pF gB cS fa s m i out f:=(l1 136 1 _).trans (by kernel_rfl)
def oz (jD:ae fE)(s:List Int)(out:List (List Int))(m:Int):Option (List (List Int)):=
 bif (decide (0≤(s.length:Int))) then
 bif (decide (m<(shl .i64 1 (s.length:Int)))) then
  jD s out m 0 ([]:List Int)
 else
  some out
 else none
theorem vc (s out m):cS s out m=oz fE s out m:=(l1 136 0 _).trans (by kernel_rfl)
def oA (jD:ae fE)(ow:ae cS)(iq:ae fa)(s:List Int)(out:List (List Int))(m:Int)(i:Int)(f:List Int):Option (List (List Int)):=
 bif (decide (i<(s.length:Int))) then
  bif (decide (0≤i)) then
  bif (((shr .i64 m i).tmod 2)==1) then
   (idx s i).bind fun v0=>
   bif (aB 8 1 f.length 1) then
   jD s out m (IntKind.wrap .i64 (i+1)) (f++([v0]:List Int))
   else none
  else
   jD s out m (IntKind.wrap .i64 (i+1)) f
  else none
 else
  (iq out f).bind fun r1=>
  ow s r1 (IntKind.wrap .i64 (m+1))
theorem vd (s out m i f):fE s out m i f=oA fE cS fa s out m i f:=(l1 136 1 _).trans (by kernel_rfl)
def CQ (IA:ae ss)(s:List Int):Option (List (List Int)):=
 IA s 1 ([]:List (List Int))
theorem K9 (s):j5 s=CQ ss s:=(e1 136 _).trans (by kernel_rfl)
def sO (jq:ae iV)(bc:ae aV)(l:List (List Int))(s:List Int)(done:Bool)(i:Int)(out:List (List Int)):Option (List (List Int)):=
 bif (decide (i<(l.length:Int))) then
  (idx l i).bind fun v0=>
  (bc s v0).bind fun r1=>
  bif (r1==0) then
   some l
  else
   bif (decide (r1<0)) then
    bif (!done) then
     bif (aB 24 1 out.length 1) then
     (idx l i).bind fun v2=>
     bif (aB 24 1 (out++([s]:List (List Int))).length 1) then
     let e3:List (List Int):=((out++([s]:List (List Int)))++([v2]:List (List Int)))
     jq l s true (IntKind.wrap .i64 (i+1)) e3
     else none
     else none
    else
     (idx l i).bind fun v4=>
     bif (aB 24 1 out.length 1) then
     jq l s done (IntKind.wrap .i64 (i+1)) (out++([v4]:List (List Int)))
     else none
   else
    (idx l i).bind fun v5=>
    bif (aB 24 1 out.length 1) then
    jq l s done (IntKind.wrap .i64 (i+1)) (out++([v5]:List (List Int)))
    else none
 else
  bif (!done) then
   bif (aB 24 1 out.length 1) then
   some (out++([s]:List (List Int)))
   else none
  else
   some out
theorem zK (l s done i out):iV l s done i out=sO iV aV l s done i out:=(l1 137 0 _).trans (by kernel_rfl)
def F6 (jq:ae iV)(l:List (List Int))(s:List Int):Option (List (List Int)):=
 jq l s false 0 ([]:List (List Int))
theorem OF (l s):fa l s=F6 iV l s:=(e1 137 _).trans (by kernel_rfl)
def kU (pG:ae dp)(pH:ae dq)(s:List Int)(i:Int):Option (Int):=
 bif (decide (i<(s.length:Int))) then
  (idx s i).bind fun v0=>
  bif (decide (v0<0)) then
   some 1
  else
   (idx s i).bind fun v1=>
   bif (decide (v1≥64)) then
    some 1
   else
    pG s (IntKind.wrap .i64 (i+1))
 else
  pH s 1
theorem oB (s i):dp s i=kU dp dq s i:=(l1 140 0 _).trans (by kernel_rfl)
def kV (pH:ae dq)(s:List Int)(i:Int):Option (Int):=
 bif (decide (i<(s.length:Int))) then
  (idx s i).bind fun v0=>
  (idx s (IntKind.wrap .i64 (i - 1))).bind fun v1=>
  bif (decide (v0≤v1)) then
   some 6
  else
   pH s (IntKind.wrap .i64 (i+1))
 else
  some 0
theorem oC (s i):dq s i=kV dq s i:=(l1 140 1 _).trans (by kernel_rfl)
def uy (pG:ae dp)(s:List Int):Option (Int):=
 bif ((s.length:Int)==0) then
  some 1
 else
  bif (decide ((s.length:Int)>5)) then
   some 3
  else
   pG s 0
theorem A4 (s):fF s=uy dp s:=(e1 140 _).trans (by kernel_rfl)
end
end Go.Proofs.YtofjebmoebhiiaaGreatDoor.Ev
namespace Go.Proofs.YtofjebmoebhiiaaGreatDoor.Ev
open Go.Abs
noncomputable section
def pI (pJ:ae gr)(l:List (List Int))(i:Int)(out:List (List Int)):Option (List (List Int)):=
 bif (decide (i<(l.length:Int))) then
  (idx l i).bind fun v0=>
  bif (aB 8 1 0 v0.length) then
  bif (aB 24 1 out.length 1) then
  let e1:List (List Int):=(out++([(([]:List Int)++v0)]:List (List Int)))
  pJ l (IntKind.wrap .i64 (i+1)) e1
  else none
  else none
 else
  some out
theorem wF (l i out):gr l i out=pI gr l i out:=(l1 53 0 _).trans (by kernel_rfl)
def CS (pJ:ae gr)(l:List (List Int)):Option (List (List Int)):=
 pJ l 0 ([]:List (List Int))
theorem La (l):rK l=CS gr l:=(e1 53 _).trans (by kernel_rfl)
def pK (pL:ae gu)(kW:ae eF)(M0:ae rP)(A5:ae lI)(l:List (List Int))(most:Int)(RY:Int)(n:Int)(i:Int)(Zj:List (List Int)):Option (List (List Int)):=
 bif (decide (i<(l.length:Int))) then
  bif (decide (i<most)) then
   (idx l i).bind fun v0=>
   (M0 v0 (IntKind.wrap .i64 (RY+1)) n).bind fun r1=>
   bif (aB 24 1 Zj.length 1) then
   pL l most RY n (IntKind.wrap .i64 (i+1)) (Zj++([r1]:List (List Int)))
   else none
  else
   (A5 Zj).bind fun r2=>
   kW r2 (r2.length:Int) 0 ([]:List (List Int))
 else
  (A5 Zj).bind fun r3=>
  kW r3 (r3.length:Int) 0 ([]:List (List Int))
theorem wG (l most RY n i Zj):gu l most RY n i Zj=pK gu eF rP lI l most RY n i Zj:=(l1 54 0 _).trans (by kernel_rfl)
def pM (kW:ae eF)(t:List (List Int))(t2:Int)(t3:Int)(out:List (List Int)):Option (List (List Int)):=
 bif (decide (t3<t2)) then
  (idx t t3).bind fun v0=>
  bif (aB 24 1 out.length 1) then
  kW t t2 (IntKind.wrap .i64 (t3+1)) (out++([v0]:List (List Int)))
  else none
 else
  some out
theorem wH (t t2 t3 out):eF t t2 t3 out=pM eF t t2 t3 out:=(l1 54 1 _).trans (by kernel_rfl)
def CT (pL:ae gu)(l:List (List Int))(most:Int)(RY:Int)(n:Int):Option (List (List Int)):=
 pL l most RY n 0 ([]:List (List Int))
theorem Lb (l most RY n):rL l most RY n=CT gu l most RY n:=(e1 54 _).trans (by kernel_rfl)
def oD (Ht:ae qL)(uz:ae j5)(l:List (List Int))(i:Int)(out:List (List Int)):Option (List (List Int)):=
 bif (decide (i<(l.length:Int))) then
  (idx l i).bind fun v0=>
  (uz v0).bind fun r1=>
  Ht l i r1 0 out
 else
  some out
theorem ve (l i out):fz l i out=oD qL j5 l i out:=(l1 94 0 _).trans (by kernel_rfl)
def wI (fI:ae cr)(oE:ae fz)(iq:ae fa)(l:List (List Int))(i:Int)(f:List (List Int))(k:Int)(out:List (List Int)):Option (List (List Int)):=
 bif (decide (k<(f.length:Int))) then
  (idx f k).bind fun v0=>
  (iq out v0).bind fun r1=>
  fI l r1 i f (IntKind.wrap .i64 (k+1))
 else
  oE l (IntKind.wrap .i64 (i+1)) out
theorem F7 (l i f k out):qL l i f k out=wI cr fz fa l i f k out:=(l1 94 1 _).trans (by kernel_rfl)
def nx (fI:ae cr)(F8:ae gW)(iq:ae fa)(l:List (List Int))(out:List (List Int))(i:Int)(f:List (List Int))(k:Int):Option (List (List Int)):=
 bif (decide (k<(f.length:Int))) then
  (idx f k).bind fun v0=>
  (iq out v0).bind fun r1=>
  fI l r1 i f (IntKind.wrap .i64 (k+1))
 else
  F8 l out (IntKind.wrap .i64 (i+1))
theorem tl (l out i f k):cr l out i f k=nx cr gW fa l out i f k:=(l1 94 1 _).trans (by kernel_rfl)
def ny (fI:ae cr)(uz:ae j5)(l:List (List Int))(out:List (List Int))(i:Int):Option (List (List Int)):=
 bif (decide (i<(l.length:Int))) then
  (idx l i).bind fun v0=>
  (uz v0).bind fun r1=>
  fI l out i r1 0
 else
  some out
theorem tn (l out i):gW l out i=ny cr j5 l out i:=(l1 94 0 _).trans (by kernel_rfl)
def A6 (oE:ae fz)(l:List (List Int)):Option (List (List Int)):=
 oE l 0 ([]:List (List Int))
theorem JI (l):lI l=A6 fz l:=(e1 94 _).trans (by kernel_rfl)
def pN (eW:ae gA)(uA:ae fF)(bc:ae aV)(bV:ae bK)(l:List (List Int))(i:Int):Option (Int):=
 bif (decide (i<(l.length:Int))) then
  (idx l i).bind fun v0=>
  (uA v0).bind fun r1=>
  bif (r1 != 0) then
   some r1
  else
   bif (decide (i>0)) then
    (idx l i).bind fun v2=>
    (idx l (IntKind.wrap .i64 (i - 1))).bind fun v3=>
    (bc v2 v3).bind fun r4=>
    bif (r4==0) then
     some 5
    else
     bif (decide (i>0)) then
      (idx l i).bind fun v5=>
      (idx l (IntKind.wrap .i64 (i - 1))).bind fun v6=>
      (bc v5 v6).bind fun r7=>
      bif (decide (r7<0)) then
       some 6
      else
       (idx l i).bind fun v8=>
       (bV v8).bind fun r9=>
       eW l i r9 0
     else
      (idx l i).bind fun v10=>
      (bV v10).bind fun r11=>
      eW l i r11 0
   else
    bif (decide (i>0)) then
     (idx l i).bind fun v12=>
     (idx l (IntKind.wrap .i64 (i - 1))).bind fun v13=>
     (bc v12 v13).bind fun r14=>
     bif (decide (r14<0)) then
      some 6
     else
      (idx l i).bind fun v15=>
      (bV v15).bind fun r16=>
      eW l i r16 0
    else
     (idx l i).bind fun v17=>
     (bV v17).bind fun r18=>
     eW l i r18 0
 else
  some 0
theorem wJ (l i):eH l i=pN gA fF aV bK l i:=(l1 96 0 _).trans (by kernel_rfl)
def pO (eW:ae gA)(pP:ae eH)(M3:ae ym)(l:List (List Int))(i:Int)(f:List (List Int))(k:Int):Option (Int):=
 bif (decide (k<(f.length:Int))) then
  (idx f k).bind fun v0=>
  (M3 l v0).bind fun r1=>
  bif (decide (r1<0)) then
   some 7
  else
   eW l i f (IntKind.wrap .i64 (k+1))
 else
  pP l (IntKind.wrap .i64 (i+1))
theorem wK (l i f k):gA l i f k=pO gA eH ym l i f k:=(l1 96 1 _).trans (by kernel_rfl)
def CU (pP:ae eH)(l:List (List Int)):Option (Int):=
 bif (decide ((l.length:Int)>1024)) then
  some 3
 else
  pP l 0
theorem Lc (l):rQ l=CU eH l:=(e1 96 _).trans (by kernel_rfl)
def pQ (pR:ae gC)(bc:ae aV)(l:List (List Int))(s:List Int)(i:Int):Option (Int):=
 bif (decide (i<(l.length:Int))) then
  (idx l i).bind fun v0=>
  (bc v0 s).bind fun r1=>
  bif (r1==0) then
   some i
  else
   pR l s (IntKind.wrap .i64 (i+1))
 else
  some (-1)
theorem wL (l s i):gC l s i=pQ gC aV l s i:=(l1 141 0 _).trans (by kernel_rfl)
def CW (pR:ae gC)(l:List (List Int))(s:List Int):Option (Int):=
 pR l s 0
theorem Ld (l s):ym l s=CW gC l s:=(e1 141 _).trans (by kernel_rfl)
end
end Go.Proofs.YtofjebmoebhiiaaGreatDoor.Ev
namespace Go.Proofs.YtofjebmoebhiiaaGreatDoor.Ev
open Go.Abs
noncomputable section
def pS (kX:ae gp)(CX:ae rM)(RE:ae yS)(values:List Int)(c:List (List Int))(i:Int)(V2:List ByteArray):Option (List ((List Int)×ByteArray×Unit)):=
 bif (decide (i<(c.length:Int))) then
  bif (decide ((values.length:Int)>0)) then
   bif (!((values.length:Int)==0)) then
   (idx values (i.tmod (values.length:Int))).bind fun v0=>
   bif (!((values.length:Int)==0)) then
   let e1:Int:=(IntKind.wrap .i64 (i.tdiv (values.length:Int)))
   (CX (IntKind.wrap .i64 (v0+e1))).bind fun r2=>
   bif (aB 16 1 V2.length 1) then
   kX values c (IntKind.wrap .i64 (i+1)) (V2++([r2]:List ByteArray))
   else none
   else none
   else none
  else
   (CX i).bind fun r3=>
   bif (aB 16 1 V2.length 1) then
   kX values c (IntKind.wrap .i64 (i+1)) (V2++([r3]:List ByteArray))
   else none
 else
  (RE c V2).bind fun r4=>
  some r4.1
theorem wM (values c i V2):gp values c i V2=pS gp rM yS values c i V2:=(l1 32 0 _).trans (by kernel_rfl)
def CY (kX:ae gp)(M4:ae rL)(M5:ae rK)(l:List (List Int))(values:List Int)(most:Int)(RY:Int)(n:Int):Option (List ((List Int)×ByteArray×Unit)):=
 (M4 l most RY n).bind fun r0=>
 (M5 r0).bind fun r1=>
 kX values r1 0 ([]:List ByteArray)
theorem Lf (l values most RY n):rI l values most RY n=CY gp rL rK l values most RY n:=(e1 32 _).trans (by kernel_rfl)
def CZ (IB:ae gz)(n:Int):Option (ByteArray):=
 let e0:Int:=(IntKind.wrap .i64 ((n.tmod 24)+24))
 let e1:Int:=(IntKind.wrap .i64 ((e0.tmod 24) - 8))
 (IB e1 4).bind fun r2=>
 some r2
theorem Lg (n):rM n=CZ gz n:=(e1 55 _).trans (by kernel_rfl)
def uB (uC:ae jX)(uD:ae ik)(kt:ae dd)(l:List (List Int))(values:List ByteArray)(i:Int):Option ((List ((List Int)×ByteArray×Unit))×Int):=
 bif (decide (i<(values.length:Int))) then
  (idx values i).bind fun v0=>
  (kt v0).bind fun r1=>
  bif (!r1) then
   some (([]:List ((List Int)×ByteArray×Unit)),(1:Int))
  else
   uC l values (IntKind.wrap .i64 (i+1))
 else
  uD l values 0 ([]:List ((List Int)×ByteArray×Unit))
theorem A7 (l values i):jX l values i=uB jX ik dd l values i:=(l1 56 0 _).trans (by kernel_rfl)
def uE (ku:ae jY)(Lh:ae qs)(l:List (List Int))(values:List ByteArray)(i:Int)(out:List ((List Int)×ByteArray×Unit)):Option ((List ((List Int)×ByteArray×Unit))×Int):=
 bif (decide (i<(l.length:Int))) then
  (idx values i).bind fun v0=>
  ku l values i v0 0 out
 else
  (Lh out).bind fun r1=>
  some (r1,(0:Int))
theorem A8 (l values i out):ik l values i out=uE jY qs l values i out:=(l1 56 1 _).trans (by kernel_rfl)
def uF (ku:ae jY)(uD:ae ik)(P1:ae vR)(dW:ae bb)(l:List (List Int))(values:List ByteArray)(i:Int)(V2:ByteArray)(k:Int)(out:List ((List Int)×ByteArray×Unit)):Option ((List ((List Int)×ByteArray×Unit))×Int):=
 bif (decide (k<(l.length:Int))) then
  (idx l i).bind fun v0=>
  (idx l k).bind fun v1=>
  (P1 v0 v1).bind fun r2=>
  bif r2 then
   (idx values k).bind fun v3=>
   (dW v3 V2).bind fun r4=>
   bif (decide (r4>0)) then
    (idx values k).bind fun v5=>
    ku l values i v5 (IntKind.wrap .i64 (k+1)) out
   else
    ku l values i V2 (IntKind.wrap .i64 (k+1)) out
  else
   ku l values i V2 (IntKind.wrap .i64 (k+1)) out
 else
  (idx l i).bind fun v6=>
  let e7:List ((List Int)×ByteArray×Unit):=([(v6,(V2,()))]:List ((List Int)×ByteArray×Unit))
  bif (aB 40 2 out.length 1) then
  uD l values (IntKind.wrap .i64 (i+1)) (out++e7)
  else none
theorem A9 (l values i V2 k out):jY l values i V2 k out=uF jY ik vR bb l values i V2 k out:=(l1 56 2 _).trans (by kernel_rfl)
def HY (uC:ae jX)(M6:ae rQ)(l:List (List Int))(values:List ByteArray):Option ((List ((List Int)×ByteArray×Unit))×Int):=
 (M6 l).bind fun r0=>
 bif (r0 != 0) then
  some (([]:List ((List Int)×ByteArray×Unit)),r0)
 else
  bif ((values.length:Int) != (l.length:Int)) then
   some (([]:List ((List Int)×ByteArray×Unit)),(10:Int))
  else
   uC l values 0
theorem P2 (l values):yS l values=HY jX rQ l values:=(e1 56 _).trans (by kernel_rfl)
def kY (pT:ae dj)(OG:ae lB)(bV:ae bK)(f:List ((List Int)×ByteArray×Unit))(i:Int):Option (Int):=
 bif (decide (i<(f.length:Int))) then
  (OG f i).bind fun r0=>
  bif (r0 != 0) then
   some r0
  else
   (idx f i).bind fun v1=>
   (bV v1.1).bind fun r2=>
   pT f i r2 0
 else
  some 0
theorem oF (f i):cB f i=kY dj lB bK f i:=(l1 57 0 _).trans (by kernel_rfl)
def kZ (pT:ae dj)(k8:ae cB)(uG:ae fA)(dW:ae bb)(f:List ((List Int)×ByteArray×Unit))(i:Int)(aQ:List (List Int))(k:Int):Option (Int):=
 bif (decide (k<(aQ.length:Int))) then
  (idx aQ k).bind fun v0=>
  (uG f i v0).bind fun r1=>
  bif (decide (r1<0)) then
   some 7
  else
   pT f i aQ (IntKind.wrap .i64 (k+1))
 else
  bif (decide (i>0)) then
   (idx f i).bind fun v2=>
   (idx f (IntKind.wrap .i64 (i - 1))).bind fun v3=>
   (dW v2.2.1 v3.2.1).bind fun r4=>
   bif (decide (r4<0)) then
    some 6
   else
    k8 f (IntKind.wrap .i64 (i+1))
  else
   k8 f (IntKind.wrap .i64 (i+1))
theorem oG (f i aQ k):dj f i aQ k=kZ dj cB fA bb f i aQ k:=(l1 57 1 _).trans (by kernel_rfl)
def uH (k8:ae cB)(f:List ((List Int)×ByteArray×Unit)):Option (Int):=
 bif (decide ((f.length:Int)>1024)) then
  some 3
 else
  k8 f 0
theorem Ba (f):jZ f=uH cB f:=(e1 57 _).trans (by kernel_rfl)
def oH (jE:ae dK)(out:Nat)(i:Int)(aD:H4)(kF:H8):Option (List ((List Int)×ByteArray×Unit)):=
 (af kF out).bind fun v0=>
 bif (decide (i<(v0.length:Int))) then
  jE out i i aD kF
 else
  (typed (hs [] [] [] [] aD [] [] [] kF []) (.slice (.st (.pair (.slice (.int .i64)) (.pair (.str) (.unit))))) (.rv (.cv ⟨.ref 8,out⟩))).bind fun v1=>
  some v1
theorem vf (out i aD kF):cQ out i aD kF=oH dK out i aD kF:=(l1 98 0 _).trans (by kernel_rfl)
def oI (gf:ae cQ)(jE:ae dK)(dW:ae bb)(bc:ae aV)(out:Nat)(i:Int)(k:Int)(aD:H4)(kF:H8):Option (List ((List Int)×ByteArray×Unit)):=
 bif (decide (k>0)) then
  (af kF out).bind fun v0=>
  (idx v0 k).bind fun _=>
  (af kF out).bind fun v1=>
  (v1[k.toNat]?).bind fun v2=>
  (af kF out).bind fun v3=>
  (idx v3 (IntKind.wrap .i64 (k - 1))).bind fun _=>
  (af kF out).bind fun v4=>
  (v4[(IntKind.wrap .i64 (k - 1)).toNat]?).bind fun v5=>
  (dW v2.2.1 v5.2.1).bind fun r6=>
  bif (decide (r6>0)) then
   gf out (IntKind.wrap .i64 (i+1)) aD kF
  else
   bif (r6==0) then
    (af kF out).bind fun v7=>
    (idx v7 k).bind fun _=>
    (af kF out).bind fun v8=>
    (v8[k.toNat]?).bind fun v9=>
    (af kF out).bind fun v10=>
    (idx v10 (IntKind.wrap .i64 (k - 1))).bind fun _=>
    (af kF out).bind fun v11=>
    (v11[(IntKind.wrap .i64 (k - 1)).toNat]?).bind fun v12=>
    (typed (hs [] [] [] [] aD [] [] [] kF []) (.slice (.int .i64)) (.rv (.cv ⟨.ref 4,v9.1⟩))).bind fun v13=>
    (typed (hs [] [] [] [] aD [] [] [] kF []) (.slice (.int .i64)) (.rv (.cv ⟨.ref 4,v12.1⟩))).bind fun v14=>
    (bc v13 v14).bind fun r15=>
    bif (decide (r15>0)) then
     gf out (IntKind.wrap .i64 (i+1)) aD kF
    else
     (af kF out).bind fun v16=>
     (idx v16 (IntKind.wrap .i64 (k - 1))).bind fun _=>
     (af kF out).bind fun v17=>
     (v17[(IntKind.wrap .i64 (k - 1)).toNat]?).bind fun v18=>
     (af kF out).bind fun v19=>
     (idx v19 k).bind fun _=>
     (af kF out).bind fun v20=>
     (v20[k.toNat]?).bind fun v21=>
     (af kF out).bind fun v22=>
     (idx v22 k).bind fun _=>
     (af kF out).bind fun v23=>
     (v23[k.toNat]?).bind fun v24=>
     let e25:H8:=(gK kF out (v23.set k.toNat (v18.1,(v18.2.1,()))))
     (af e25 out).bind fun v26=>
     (idx v26 (IntKind.wrap .i64 (k - 1))).bind fun _=>
     (af e25 out).bind fun v27=>
     (v27[(IntKind.wrap .i64 (k - 1)).toNat]?).bind fun v28=>
     let e29:H8:=(gK e25 out (v27.set (IntKind.wrap .i64 (k - 1)).toNat (v21.1,(v21.2.1,()))))
     jE out i (IntKind.wrap .i64 (k - 1)) aD e29
   else
    (af kF out).bind fun v30=>
    (idx v30 (IntKind.wrap .i64 (k - 1))).bind fun _=>
    (af kF out).bind fun v31=>
    (v31[(IntKind.wrap .i64 (k - 1)).toNat]?).bind fun v32=>
    (af kF out).bind fun v33=>
    (idx v33 k).bind fun _=>
    (af kF out).bind fun v34=>
    (v34[k.toNat]?).bind fun v35=>
    (af kF out).bind fun v36=>
    (idx v36 k).bind fun _=>
    (af kF out).bind fun v37=>
    (v37[k.toNat]?).bind fun v38=>
    let e39:H8:=(gK kF out (v37.set k.toNat (v32.1,(v32.2.1,()))))
    (af e39 out).bind fun v40=>
    (idx v40 (IntKind.wrap .i64 (k - 1))).bind fun _=>
    (af e39 out).bind fun v41=>
    (v41[(IntKind.wrap .i64 (k - 1)).toNat]?).bind fun v42=>
    let e43:H8:=(gK e39 out (v41.set (IntKind.wrap .i64 (k - 1)).toNat (v35.1,(v35.2.1,()))))
    jE out i (IntKind.wrap .i64 (k - 1)) aD e43
 else
  gf out (IntKind.wrap .i64 (i+1)) aD kF
theorem vg (out i k aD kF):dK out i k aD kF=oI cQ dK bb aV out i k aD kF:=(l1 98 1 _).trans (by kernel_rfl)
def Bb (gf:ae cQ)(Li:ae qt)(l:List ((List Int)×ByteArray×Unit)):Option (List ((List Int)×ByteArray×Unit)):=
 (Li l ([]:H8) ([]:H4)).bind fun r0=>
 gf r0.1 0 r0.2.2 r0.2.1
theorem JJ (l):qs l=Bb cQ qt l:=(e1 98 _).trans (by kernel_rfl)
def wN (uA:ae fF)(kt:ae dd)(uG:ae fA)(f:List ((List Int)×ByteArray×Unit))(i:Int):Option (Int):=
 (idx f i).bind fun v0=>
 (uA v0.1).bind fun r1=>
 bif (r1 != 0) then
  some r1
 else
  (idx f i).bind fun v2=>
  (kt v2.2.1).bind fun r3=>
  bif (!r3) then
   some 1
  else
   (idx f i).bind fun v4=>
   (uG f i v4.1).bind fun r5=>
   bif (decide (r5≥0)) then
    some 5
   else
    some 0
theorem C0 (f i):lB f i=wN fF dd fA f i:=(e1 99 _).trans (by kernel_rfl)
def k9 (pU:ae dm)(bc:ae aV)(f:List ((List Int)×ByteArray×Unit))(n:Int)(s:List Int)(i:Int):Option (Int):=
 bif (decide (i<n)) then
  (idx f i).bind fun v0=>
  (bc v0.1 s).bind fun r1=>
  bif (r1==0) then
   some i
  else
   pU f n s (IntKind.wrap .i64 (i+1))
 else
  some (-1)
theorem oJ (f n s i):dm f n s i=k9 dm aV f n s i:=(l1 100 0 _).trans (by kernel_rfl)
def uI (pU:ae dm)(f:List ((List Int)×ByteArray×Unit))(n:Int)(s:List Int):Option (Int):=
 pU f n s 0
theorem Bc (f n s):fA f n s=uI dm f n s:=(e1 100 _).trans (by kernel_rfl)
def oK (eB:ae fG)(l:List ((List Int)×ByteArray×Unit))(out:Nat)(i:Int)(aD:H4)(kF:H8):Option ((Nat)×H8×H4):=
 bif (decide (i<(l.length:Int))) then
  (idx l i).bind fun v0=>
  (af (aD++[some ([]:List Int)]) (aD.length+1:Nat)).bind fun v1=>
  bif (aB 8 1 v1.length v0.1.length) then
  bif v0.1.isEmpty then
   (idx l i).bind fun v2=>
   let e3:H8:=(kF++[some ([((aD.length+1:Nat),(v2.2.1,()))]:List (Nat×ByteArray×Unit))])
   (af e3 out).bind fun v4=>
   (af e3 (kF.length+1:Nat)).bind fun v5=>
   bif (aB 40 2 v4.length v5.length) then
   bif v5.isEmpty then
    eB l out (IntKind.wrap .i64 (i+1)) (aD++[some ([]:List Int)]) e3
   else
    eB l ((c5 e3 out).length+1:Nat) (IntKind.wrap .i64 (i+1)) (aD++[some ([]:List Int)]) ((c5 e3 out)++[some (v4++v5)])
   else none
  else
   let e6:H4:=((c5 (aD++[some ([]:List Int)]) (aD.length+1:Nat))++[some (v1++v0.1)])
   let e7:Nat:=((c5 (aD++[some ([]:List Int)]) (aD.length+1:Nat)).length+1:Nat)
   (idx l i).bind fun v8=>
   let e9:H8:=(kF++[some ([(e7,(v8.2.1,()))]:List (Nat×ByteArray×Unit))])
   (af e9 out).bind fun v10=>
   (af e9 (kF.length+1:Nat)).bind fun v11=>
   bif (aB 40 2 v10.length v11.length) then
   bif v11.isEmpty then
    eB l out (IntKind.wrap .i64 (i+1)) e6 e9
   else
    eB l ((c5 e9 out).length+1:Nat) (IntKind.wrap .i64 (i+1)) e6 ((c5 e9 out)++[some (v10++v11)])
   else none
  else none
 else
  some (out,(kF,aD))
theorem vh (l out i aD kF):fG l out i aD kF=oK fG l out i aD kF:=(l1 142 0 _).trans (by kernel_rfl)
def Be (eB:ae fG)(l:List ((List Int)×ByteArray×Unit))(kF:H8)(aD:H4):Option ((Nat)×H8×H4):=
 eB l (0:Nat) 0 aD kF
theorem JK (l kF aD):qt l kF aD=Be fG l kF aD:=(e1 142 _).trans (by kernel_rfl)
end
end Go.Proofs.YtofjebmoebhiiaaGreatDoor.Ev
namespace Go.Proofs.YtofjebmoebhiiaaGreatDoor.Ev
open Go.Abs
noncomputable section
def lb (pV:ae gj)(n:Int)(x:List (List Int))(x2:List Int)(x3:Int)(x4:List Int)(t:Int)(t2:Nat)(c:Int)(c2:ji):Option hZ:=
 bif (decide ((IntKind.wrap .i64 (n+2))<(x4.length:Int))) then
  bif (decide (n<24)) then
   bif (decide ((c2.length:Int)>0)) then
    (idx x4 n).bind fun v0=>
    bif (!((c2.length:Int)==0)) then
    let e1:Int:=(IntKind.wrap .i64 ((v0.tmod (c2.length:Int))+(c2.length:Int)))
    bif (!((c2.length:Int)==0)) then
    (idx x4 (IntKind.wrap .i64 (n+1))).bind fun v2=>
    bif (!((IntKind.wrap .i64 (c - 1))==0)) then
    let e3:Int:=(IntKind.wrap .i64 ((v2.tmod (IntKind.wrap .i64 (c - 1)))+c))
    bif (!((IntKind.wrap .i64 (c - 1))==0)) then
    let e4:Int:=((IntKind.wrap .i64 (e3 - 1)).tmod (IntKind.wrap .i64 (c - 1)))
    let e5:Int:=(IntKind.wrap .i64 ((e1.tmod (c2.length:Int)) - 1))
    pV n (e1.tmod (c2.length:Int)) (IntKind.wrap .i64 (1+e4)) e5 x x2 x3 x4 t t2 c c2
    else none
    else none
    else none
    else none
   else
    some (c,(c2,()))
  else
   some (c,(c2,()))
 else
  some (c,(c2,()))
theorem oL (n x x2 x3 x4 t t2 c c2):di n x x2 x3 x4 t t2 c c2=lb gj n x x2 x3 x4 t t2 c c2:=(l1 14 0 _).trans (by kernel_rfl)
def pW (pV:ae gj)(eX:ae di)(Eh:ae tI)(n:Int)(j:Int)(k:Int)(i:Int)(x:List (List Int))(x2:List Int)(x3:Int)(x4:List Int)(t:Int)(t2:Nat)(c:Int)(c2:ji):Option hZ:=
 bif (decide (i≥0)) then
  (idx c2 i).bind fun v0=>
  (idx c2 j).bind fun v1=>
  bif (v0.1 != v1.1) then
   pV n j k (IntKind.wrap .i64 (i - 1)) x x2 x3 x4 t t2 c c2
  else
   bif (decide (i≥0)) then
    (idx x4 (IntKind.wrap .i64 (n+2))).bind fun v2=>
    bif (!(c==0)) then
    bif (!(c==0)) then
    (Eh (c,(c2,())) i j k ((IntKind.wrap .i64 ((v2.tmod c)+c)).tmod c)).bind fun r3=>
    eX (IntKind.wrap .i64 (n+3)) x x2 x3 x4 t t2 r3.1 r3.2.1
    else none
    else none
   else
    eX (IntKind.wrap .i64 (n+3)) x x2 x3 x4 t t2 c c2
 else
  bif (decide (i≥0)) then
   (idx x4 (IntKind.wrap .i64 (n+2))).bind fun v4=>
   bif (!(c==0)) then
   bif (!(c==0)) then
   (Eh (c,(c2,())) i j k ((IntKind.wrap .i64 ((v4.tmod c)+c)).tmod c)).bind fun r5=>
   eX (IntKind.wrap .i64 (n+3)) x x2 x3 x4 t t2 r5.1 r5.2.1
   else none
   else none
  else
   eX (IntKind.wrap .i64 (n+3)) x x2 x3 x4 t t2 c c2
theorem wO (n j k i x x2 x3 x4 t t2 c c2):gj n j k i x x2 x3 x4 t t2 c c2=pW gj di tI n j k i x x2 x3 x4 t t2 c c2:=(l1 14 1 _).trans (by kernel_rfl)
def C1 (eX:ae di)(M7:ae rI)(M8:ae rJ)(AA:ae jK)(x:(List (List Int))×(List Int)×Int×(List Int)×Unit)(most:Int):Option hZ:=
 let e0:Int:=(bif decide (40<(x.1.length:Int)) then 40 else (x.1.length:Int))
 bif (c7 x.1.length 0 e0) then
 (M7 (cut x.1 0 e0) x.2.1 5 3 6).bind fun r1=>
 let e2:Int:=(bif decide (most<(r1.length:Int)) then most else (r1.length:Int))
 bif (c7 r1.length 0 e2) then
 (M8 x.2.2.1).bind fun r3=>
 (AA (cut r1 0 e2) r3).bind fun r4=>
 eX 0 x.1 x.2.1 x.2.2.1 x.2.2.2.1 0 (0:Nat) r4.1.1 r4.1.2.1
 else none
 else none
theorem Lj (x most):rG x most=C1 di rI rJ jK x most:=(e1 14 _).trans (by kernel_rfl)
def gg (oM:ae dI)(i:Int)(c:Int)(c2:ji)(t:Int)(t2:Nat)(out:Int)(ag:Nat)(br:H0):Option ((Int×Nat×Unit)×H0):=
 bif (decide (i<(c2.length:Int))) then
  (idx c2 i).bind fun v0=>
  bif (aB 16 2 0 v0.2.2.1.length) then
  let e1:ji:=([(v0.1,(v0.2.1,((([]:b6)++v0.2.2.1),())))]:ji)
  (af br ag).bind fun v2=>
  bif (aB 48 3 v2.length 1) then
  oM (IntKind.wrap .i64 (i+1)) c c2 t t2 out ((c5 br ag).length+1:Nat) ((c5 br ag)++[some (v2++e1)])
  else none
  else none
 else
  (typed (hs ([]) [] [] [] [] [] [] [] [] []) yG (.rv (.agg [⟨.int .i64,out⟩,⟨.ref 0,ag⟩]))).bind fun v3=>
  some (v3,br)
theorem i7 (i c c2 t t2 out ag br):dI i c c2 t t2 out ag br=gg dI i c c2 t t2 out ag br:=(l1 15 0 _).trans (by kernel_rfl)
def sP (oM:ae dI)(c:hZ)(br:H0):Option ((Int×Nat×Unit)×H0):=
 oM 0 c.1 c.2.1 0 (0:Nat) c.1 (0:Nat) br
theorem zL (c br):fT c br=sP dI c br:=(e1 15 _).trans (by kernel_rfl)
def pX (pY:ae gm)(Lk:ae qo)(j:Int)(c:Int)(c2:ji):Option (Int):=
 bif (decide (j<(c2.length:Int))) then
  (Lk (c,(c2,())) j).bind fun r0=>
  bif (r0 != 0) then
   some r0
  else
   pY (IntKind.wrap .i64 (j+1)) c c2
 else
  some 0
theorem wP (j c c2):gm j c c2=pX gm qo j c c2:=(l1 16 0 _).trans (by kernel_rfl)
def C2 (pY:ae gm)(uJ:ae ef)(c:hZ):Option (Int):=
 (uJ c.1).bind fun r0=>
 bif (!r0) then
  some 8
 else
  bif (decide ((c.2.1.length:Int)>1024)) then
   some 3
  else
   pY 0 c.1 c.2.1
theorem Ll (c):rH c=C2 gm ef c:=(e1 16 _).trans (by kernel_rfl)
def q8 (q9:ae ic)(iY:ae cq)(i:Int)(a:Int)(a2:ji)(b:Int)(b2:ji):Option (Bool):=
 bif (decide (i<(a2.length:Int))) then
  (idx a2 i).bind fun v0=>
  (idx b2 i).bind fun v1=>
  bif (v0.1 != v1.1) then
   some false
  else
   (idx a2 i).bind fun v2=>
   (idx b2 i).bind fun v3=>
   bif (!(v2.2.1.toList==v3.2.1.toList)) then
    some false
   else
    (idx a2 i).bind fun v4=>
    (idx b2 i).bind fun v5=>
    (iY v4.2.2.1 v5.2.2.1).bind fun r6=>
    bif (!r6) then
     some false
    else
     q9 (IntKind.wrap .i64 (i+1)) a a2 b b2
 else
  some true
theorem xJ (i a a2 b b2):ic i a a2 b b2=q8 ic cq i a a2 b b2:=(l1 19 0 _).trans (by kernel_rfl)
def Ei (q9:ae ic)(a:hZ)(b:hZ):Option (Bool):=
 bif (a.1 != b.1) then
  some false
 else
  bif ((a.2.1.length:Int) != (b.2.1.length:Int)) then
   some false
  else
   q9 0 a.1 a.2.1 b.1 b.2.1
theorem M9 (a b):lA a b=Ei ic a b:=(e1 19 _).trans (by kernel_rfl)
def gh (kv:ae bC)(a:b6)(b:b6)(i:Int):Option (Bool):=
 bif (decide (i<(a.length:Int))) then
  (idx a i).bind fun v0=>
  (idx b i).bind fun v1=>
  bif (!(BS yT (v0.1,(v0.2.1,())) (v1.1,(v1.2.1,())))) then
   some false
  else
   kv a b (IntKind.wrap .i64 (i+1))
 else
  some true
theorem jF (a b i):bC a b i=gh bC a b i:=(l1 30 0 _).trans (by kernel_rfl)
def nz (kv:ae bC)(a:b6)(b:b6):Option (Bool):=
 bif ((a.length:Int) != (b.length:Int)) then
  some false
 else
  kv a b 0
theorem tp (a b):cq a b=nz bC a b:=(e1 30 _).trans (by kernel_rfl)
def uK (uL:ae fu)(bV:ae bK)(f:List ((List Int)×ByteArray×Unit))(p:Int)(j:Int)(t:Int)(t2:Nat)(out:Int)(ag:Nat):Option (hZ×Int):=
 bif (decide (j<(f.length:Int))) then
  bif (gL 8 j j) then
  let e0:H4:=(([]:H4)++[some (List.replicate j.toNat 0)])
  let e1:Nat:=(([]:H4).length+1:Nat)
  (idx f j).bind fun v2=>
  (bV v2.1).bind fun r3=>
  uL f p j e1 r3 0 t t2 out ag e0
  else none
 else
  (MI (typed h0 yH (.rv (.agg [⟨.int .i64,out⟩,⟨.ref 0,ag⟩]))) (some 0)).bind fun v4=>
  some v4
theorem Bf (f p j t t2 out ag):mW f p j t t2 out ag=uK fu bK f p j t t2 out ag:=(l1 33 0 _).trans (by kernel_rfl)
def oN (oO:ae ie)(sQ:ae cN)(bB:ae aC)(f:List ((List Int)×ByteArray×Unit))(p:Int)(j:Int)(v:Nat)(aQ:List (List Int))(k:Int)(t:Int)(t2:Nat)(out:Int)(ag:Nat)(aD:H4):Option (hZ×Int):=
 bif (decide (k<(aQ.length:Int))) then
  oO f p j v aQ k 0 t t2 out ag aD
 else
  (idx f j).bind fun v0=>
  let e1:Int:=(IntKind.wrap .i64 ((v0.1.length:Int) - 1))
  (idx f j).bind fun v2=>
  (bB v aD).bind fun r3=>
  let e4:ji:=([(e1,(v2.2.1,(r3,())))]:ji)
  (af ([]:H0) ag).bind fun v5=>
  bif (aB 48 3 v5.length 1) then
  let e6:H0:=((c5 ([]:H0) ag)++[some (v5++e4)])
  let e7:Nat:=((c5 ([]:H0) ag).length+1:Nat)
  sQ f p (IntKind.wrap .i64 (j+1)) t t2 out e7 e6 aD
  else none
theorem sR (f p j v aQ k t t2 out ag aD):fu f p j v aQ k t t2 out ag aD=oN ie cN aC f p j v aQ k t t2 out ag aD:=(l1 33 1 _).trans (by kernel_rfl)
def uM (oO:ae ie)(uL:ae fu)(bc:ae aV)(f:List ((List Int)×ByteArray×Unit))(p:Int)(j:Int)(v:Nat)(aQ:List (List Int))(k:Int)(i:Int)(t:Int)(t2:Nat)(out:Int)(ag:Nat)(aD:H4):Option (hZ×Int):=
 bif (decide (i<j)) then
  (idx f i).bind fun v0=>
  (idx aQ k).bind fun v1=>
  (bc v0.1 v1).bind fun r2=>
  bif (r2==0) then
   let e3:Int:=(IntKind.wrap .i64 ((k.tmod 2)*(IntKind.wrap .i64 (p - 2))))
   bif (!(p==0)) then
   (af aD v).bind fun v4=>
   (idx v4 i).bind fun _=>
   (af aD v).bind fun v5=>
   (v5[i.toNat]?).bind fun v6=>
   let e7:H4:=(gK aD v (v5.set i.toNat ((IntKind.wrap .i64 (1+e3)).tmod p)))
   oO f p j v aQ k (IntKind.wrap .i64 (i+1)) t t2 out ag e7
   else none
  else
   oO f p j v aQ k (IntKind.wrap .i64 (i+1)) t t2 out ag aD
 else
  uL f p j v aQ (IntKind.wrap .i64 (k+1)) t t2 out ag aD
theorem Bg (f p j v aQ k i t t2 out ag aD):ie f p j v aQ k i t t2 out ag aD=uM ie fu aV f p j v aQ k i t t2 out ag aD:=(l1 33 2 _).trans (by kernel_rfl)
def mL (sS:ae dC)(bV:ae bK)(f:List ((List Int)×ByteArray×Unit))(p:Int)(j:Int)(t:Int)(t2:Nat)(out:Int)(ag:Nat)(br:H0)(aD:H4):Option (hZ×Int):=
 bif (decide (j<(f.length:Int))) then
  bif (gL 8 j j) then
  let e0:H4:=(aD++[some (List.replicate j.toNat 0)])
  (idx f j).bind fun v1=>
  (bV v1.1).bind fun r2=>
  sS f p j (aD.length+1:Nat) r2 0 t t2 out ag br e0
  else none
 else
  (MI (typed (hs br [] [] [] aD [] [] [] [] []) yH (.rv (.agg [⟨.int .i64,out⟩,⟨.ref 0,ag⟩]))) (some 0)).bind fun v3=>
  some v3
theorem ra (f p j t t2 out ag br aD):cN f p j t t2 out ag br aD=mL dC bK f p j t t2 out ag br aD:=(l1 33 0 _).trans (by kernel_rfl)
def mM (mN:ae eL)(sQ:ae cN)(bB:ae aC)(f:List ((List Int)×ByteArray×Unit))(p:Int)(j:Int)(v:Nat)(aQ:List (List Int))(k:Int)(t:Int)(t2:Nat)(out:Int)(ag:Nat)(br:H0)(aD:H4):Option (hZ×Int):=
 bif (decide (k<(aQ.length:Int))) then
  mN f p j v aQ k 0 t t2 out ag br aD
 else
  (idx f j).bind fun v0=>
  let e1:Int:=(IntKind.wrap .i64 ((v0.1.length:Int) - 1))
  (idx f j).bind fun v2=>
  (bB v aD).bind fun r3=>
  let e4:ji:=([(e1,(v2.2.1,(r3,())))]:ji)
  (af br ag).bind fun v5=>
  bif (aB 48 3 v5.length 1) then
  sQ f p (IntKind.wrap .i64 (j+1)) t t2 out ((c5 br ag).length+1:Nat) ((c5 br ag)++[some (v5++e4)]) aD
  else none
theorem rb (f p j v aQ k t t2 out ag br aD):dC f p j v aQ k t t2 out ag br aD=mM eL cN aC f p j v aQ k t t2 out ag br aD:=(l1 33 1 _).trans (by kernel_rfl)
def mO (mN:ae eL)(sS:ae dC)(bc:ae aV)(f:List ((List Int)×ByteArray×Unit))(p:Int)(j:Int)(v:Nat)(aQ:List (List Int))(k:Int)(i:Int)(t:Int)(t2:Nat)(out:Int)(ag:Nat)(br:H0)(aD:H4):Option (hZ×Int):=
 bif (decide (i<j)) then
  (idx f i).bind fun v0=>
  (idx aQ k).bind fun v1=>
  (bc v0.1 v1).bind fun r2=>
  bif (r2==0) then
   let e3:Int:=(IntKind.wrap .i64 ((k.tmod 2)*(IntKind.wrap .i64 (p - 2))))
   bif (!(p==0)) then
   (af aD v).bind fun v4=>
   (idx v4 i).bind fun _=>
   (af aD v).bind fun v5=>
   (v5[i.toNat]?).bind fun v6=>
   let e7:H4:=(gK aD v (v5.set i.toNat ((IntKind.wrap .i64 (1+e3)).tmod p)))
   mN f p j v aQ k (IntKind.wrap .i64 (i+1)) t t2 out ag br e7
   else none
  else
   mN f p j v aQ k (IntKind.wrap .i64 (i+1)) t t2 out ag br aD
 else
  sS f p j v aQ (IntKind.wrap .i64 (k+1)) t t2 out ag br aD
theorem rf (f p j v aQ k i t t2 out ag br aD):eL f p j v aQ k i t t2 out ag br aD=mO eL dC aV f p j v aQ k i t t2 out ag br aD:=(l1 33 2 _).trans (by kernel_rfl)
def AE (Na:ae mW)(uJ:ae ef)(Nb:ae jZ)(f:List ((List Int)×ByteArray×Unit))(p:Int):Option (hZ×Int):=
 (uJ p).bind fun r0=>
 bif (!r0) then
  (MI (typed h0 yH (.rv (.agg [⟨.int .i64,(0:Int)⟩,⟨.ref 0,(0:Nat)⟩]))) (some 8)).bind fun v1=>
  some v1
 else
  (Nb f).bind fun r2=>
  bif (r2 != 0) then
   (MI (typed h0 yH (.rv (.agg [⟨.int .i64,(0:Int)⟩,⟨.ref 0,(0:Nat)⟩]))) (some r2)).bind fun v3=>
   some v3
  else
   Na f p 0 0 (0:Nat) p (0:Nat)
theorem F9 (f p):jK f p=AE mW ef jZ f p:=(e1 33 _).trans (by kernel_rfl)
def C3 (n:Int):Option (Int):=
 let e0:List Int:=([2,(3:Int),(5:Int),(2:Int),(251:Int),(7:Int)]:List Int)
 let e1:Int:=(IntKind.wrap .i64 ((n.tmod 6)+6))
 (idx e0 (e1.tmod 6)).bind fun _=>
 (e0[(e1.tmod 6).toNat]?).bind fun v2=>
 some v2
theorem Lm (n):rJ n=C3 n:=(e1 34 _).trans (by kernel_rfl)
def rh (ri:ae ig)(rj:ae ij)(bB:ae aC)(i:Int)(j:Int)(k:Int)(m:Int)(inv:Int)(v:Nat)(a:List Int)(b:List Int)(n:Int)(c:Int)(c2:ji)(t:Int)(t2:Nat)(out:Int)(ag:Nat)(br:H0)(aD:H4):Option hZ:=
 (af aD v).bind fun v0=>
 bif (decide (n<(v0.length:Int))) then
  (idx a n).bind fun v1=>
  (idx b n).bind fun v2=>
  let e3:Int:=(IntKind.wrap .i64 ((IntKind.wrap .i64 (k*v1))+(IntKind.wrap .i64 (m*v2))))
  bif (!(c==0)) then
  (af aD v).bind fun v4=>
  (idx v4 n).bind fun _=>
  (af aD v).bind fun v5=>
  (v5[n.toNat]?).bind fun v6=>
  ri i j k m inv v a b (IntKind.wrap .i64 (n+1)) c c2 t t2 out ag br (gK aD v (v5.set n.toNat (e3.tmod c)))
  else none
 else
  (bB v aD).bind fun r7=>
  (af br ag).bind fun v8=>
  (idx v8 j).bind fun _=>
  (af br ag).bind fun v9=>
  (v9[j.toNat]?).bind fun v10=>
  let Te:H0:=(gK br ag (v9.set j.toNat (v10.1,(v10.2.1,(r7,())))))
  rj i j m inv (IntKind.wrap .i64 (j+1)) c c2 t t2 out ag Te aD
theorem xK (i j k m inv v a b n c c2 t t2 out ag br aD):ig i j k m inv v a b n c c2 t t2 out ag br aD=rh ig ij aC i j k m inv v a b n c c2 t t2 out ag br aD:=(l1 35 0 _).trans (by kernel_rfl)
def rk (rj:ae ij)(Ga:ae kG)(bB:ae aC)(i:Int)(j:Int)(m:Int)(inv:Int)(n:Int)(c:Int)(c2:ji)(t:Int)(t2:Nat)(out:Int)(ag:Nat)(br:H0)(aD:H4):Option hZ:=
 bif (decide (n<(c2.length:Int))) then
  (idx c2 n).bind fun v0=>
  (Ga v0.2.2.1 (c2.length:Int) aD).bind fun r1=>
  (af r1.2 r1.1).bind fun v2=>
  (idx v2 i).bind fun _=>
  (af r1.2 r1.1).bind fun v3=>
  (v3[i.toNat]?).bind fun v4=>
  (af r1.2 r1.1).bind fun v5=>
  (idx v5 j).bind fun _=>
  (af r1.2 r1.1).bind fun v6=>
  (v6[j.toNat]?).bind fun v7=>
  let e8:Int:=(IntKind.wrap .i64 ((IntKind.wrap .i64 (c - 1))*v7))
  bif (!(c==0)) then
  bif (!(c==0)) then
  let e9:Int:=(IntKind.wrap .i64 (((IntKind.wrap .i64 ((e8.tmod c)*inv)).tmod c)*m))
  bif (!(c==0)) then
  (af r1.2 r1.1).bind fun v10=>
  (idx v10 i).bind fun _=>
  (af r1.2 r1.1).bind fun v11=>
  (v11[i.toNat]?).bind fun v12=>
  let Xc:H4:=(gK r1.2 r1.1 (v11.set i.toNat ((IntKind.wrap .i64 (v4+e9)).tmod c)))
  (af Xc r1.1).bind fun v14=>
  (idx v14 j).bind fun _=>
  (af Xc r1.1).bind fun v15=>
  (v15[j.toNat]?).bind fun v16=>
  bif (!(c==0)) then
  (af Xc r1.1).bind fun v17=>
  (idx v17 j).bind fun _=>
  (af Xc r1.1).bind fun v18=>
  (v18[j.toNat]?).bind fun v19=>
  let e20:H4:=(gK Xc r1.1 (v18.set j.toNat ((IntKind.wrap .i64 (v16*inv)).tmod c)))
  (bB r1.1 e20).bind fun r21=>
  (af br ag).bind fun v22=>
  (idx v22 n).bind fun _=>
  (af br ag).bind fun v23=>
  (v23[n.toNat]?).bind fun v24=>
  let e25:H0:=(gK br ag (v23.set n.toNat (v24.1,(v24.2.1,(r21,())))))
  rj i j m inv (IntKind.wrap .i64 (n+1)) c c2 t t2 out ag e25 e20
  else none
  else none
  else none
  else none
 else
  (typed (hs br [] [] [] aD [] [] [] [] []) yH (.rv (.agg [⟨.int .i64,out⟩,⟨.ref 0,ag⟩]))).bind fun v26=>
  some v26
theorem xL (i j m inv n c c2 t t2 out ag br aD):ij i j m inv n c c2 t t2 out ag br aD=rk ij kG aC i j m inv n c c2 t t2 out ag br aD:=(l1 35 1 _).trans (by kernel_rfl)
def Ej (ri:ae ig)(sF:ae fT)(JL:ae nP)(oP:ae jW)(c:hZ)(i:Int)(j:Int)(k:Int)(m:Int):Option hZ:=
 (sF (c.1,(c.2.1,())) ([]:H0)).bind fun r0=>
 (JL c.1 k).bind fun r1=>
 bif (gL 8 (c.2.1.length:Int) (c.2.1.length:Int)) then
 let e2:H4:=(([]:H4)++[some (List.replicate (c.2.1.length:Int).toNat 0)])
 let e3:Nat:=(([]:H4).length+1:Nat)
 (idx c.2.1 j).bind fun v4=>
 (oP v4.2.2.1 (c.2.1.length:Int)).bind fun r5=>
 (idx c.2.1 i).bind fun v6=>
 (oP v6.2.2.1 (c.2.1.length:Int)).bind fun r7=>
 ri i j k m r1 e3 r5 r7 0 c.1 c.2.1 0 (0:Nat) r0.1.1 r0.1.2.1 r0.2 e2
 else none
theorem Nc (c i j k m):tI c i j k m=Ej ig fT nP jW c i j k m:=(e1 35 _).trans (by kernel_rfl)
def pZ (p4:ae eE)(p:Int)(k:Int):Option (Bool):=
 bif (decide (k<p)) then
  bif (decide (p≤251)) then
   bif (!(k==0)) then
   bif ((p.tmod k)==0) then
    some false
   else
    p4 p (IntKind.wrap .i64 (k+1))
   else none
  else
   bif (decide (p≥2)) then
    some (decide (p≤251))
   else
    some false
 else
  bif (decide (p≥2)) then
   some (decide (p≤251))
  else
   some false
theorem wQ (p k):eE p k=pZ eE p k:=(l1 36 0 _).trans (by kernel_rfl)
def uN (p4:ae eE)(p:Int):Option (Bool):=
 p4 p 2
theorem Bh (p):ef p=uN eE p:=(e1 36 _).trans (by kernel_rfl)
def oQ (oR:ae fw)(oS:ae ch)(j:Int)(i:Int)(c:Int)(c2:ji)(x:Int)(x2:ByteArray)(x3:b6):Option (Int):=
 bif (decide (i<(x3.length:Int))) then
  (idx x3 i).bind fun v0=>
  bif (decide (v0.1≥j)) then
   some 7
  else
   oR j (IntKind.wrap .i64 (i+1)) c c2 x x2 x3
 else
  oS j 0 c c2 x x2 x3
theorem vi (j i c c2 x x2 x3):fw j i c c2 x x2 x3=oQ fw ch j i c c2 x x2 x3:=(l1 37 0 _).trans (by kernel_rfl)
def oT (oS:ae ch)(Nf:ae rN)(Lo:ae qp)(dW:ae bb)(j:Int)(i:Int)(c:Int)(c2:ji)(x:Int)(x2:ByteArray)(x3:b6):Option (Int):=
 bif (decide (i<(x3.length:Int))) then
  (idx x3 i).bind fun v0=>
  (idx c2 v0.1).bind fun v1=>
  bif (v1.1 != (IntKind.wrap .i64 (x - 1))) then
   some 10
  else
   oS j (IntKind.wrap .i64 (i+1)) c c2 x x2 x3
 else
  (Nf (c,(c2,())) x3).bind fun r2=>
  (Lo r2).bind fun r3=>
  bif (decide ((r3.length:Int)>0)) then
   some 11
  else
   bif (decide (j>0)) then
    (idx c2 (IntKind.wrap .i64 (j - 1))).bind fun v4=>
    (dW x2 v4.2.1).bind fun r5=>
    bif (decide (r5<0)) then
     some 6
    else
     some 0
   else
    some 0
theorem vj (j i c c2 x x2 x3):ch j i c c2 x x2 x3=oT ch rN qp bb j i c c2 x x2 x3:=(l1 37 1 _).trans (by kernel_rfl)
def Bi (oR:ae fw)(kt:ae dd)(Lp:ae qq)(c:hZ)(j:Int):Option (Int):=
 (idx c.2.1 j).bind fun v0=>
 bif (decide (v0.1<0)) then
  some 1
 else
  bif (decide (v0.1>4)) then
   some 1
  else
   (kt v0.2.1).bind fun r1=>
   bif (!r1) then
    some 1
   else
    (Lp c.1 v0.2.2.1).bind fun r2=>
    bif (r2 != 0) then
     some r2
    else
     oR j 0 c.1 c.2.1 v0.1 v0.2.1 v0.2.2.1
theorem JM (c j):qo c j=Bi fw dd qq c j:=(e1 37 _).trans (by kernel_rfl)
def p5 (p6:ae gq)(x:b6)(i:Int)(out:List Int):Option (List Int):=
 bif (decide (i<(x.length:Int))) then
  (idx x i).bind fun v0=>
  (idx x i).bind fun v1=>
  (idx out v0.1).bind fun _=>
  (out[v0.1.toNat]?).bind fun v2=>
  p6 x (IntKind.wrap .i64 (i+1)) (out.set v0.1.toNat v1.2.1)
 else
  some out
theorem wR (x i out):gq x i out=p5 gq x i out:=(l1 38 0 _).trans (by kernel_rfl)
def C4 (p6:ae gq)(x:b6)(n:Int):Option (List Int):=
 bif (gL 8 n n) then
 p6 x 0 (List.replicate n.toNat 0)
 else none
theorem Lq (x n):jW x n=C4 gq x n:=(e1 38 _).trans (by kernel_rfl)
def oU (jG:ae fx)(v:List Int)(i:Int)(out:b6):Option b6:=
 bif (decide (i<(v.length:Int))) then
  (idx v i).bind fun v0=>
  bif (v0 != 0) then
   (idx v i).bind fun v1=>
   bif (aB 16 2 out.length 1) then
   let e2:b6:=(out++([(i,(v1,()))]:b6))
   jG v (IntKind.wrap .i64 (i+1)) e2
   else none
  else
   jG v (IntKind.wrap .i64 (i+1)) out
 else
  some out
theorem vk (v i out):fx v i out=oU fx v i out:=(l1 40 0 _).trans (by kernel_rfl)
def Bj (jG:ae fx)(v:List Int):Option b6:=
 jG v 0 ([]:b6)
theorem JN (v):qp v=Bj fx v:=(e1 40 _).trans (by kernel_rfl)
def nA (nB:ae eT)(p:Int)(a:Int)(b:Int):Option (Int):=
 bif (decide (b<p)) then
  bif (!(p==0)) then
  bif (((IntKind.wrap .i64 (a*b)).tmod p)==1) then
   some b
  else
   nB p a (IntKind.wrap .i64 (b+1))
  else none
 else
  some 0
theorem tq (p a b):eT p a b=nA eT p a b:=(l1 60 0 _).trans (by kernel_rfl)
def zM (nB:ae eT)(p:Int)(a:Int):Option (Int):=
 nB p a 1
theorem IC (p a):nP p a=zM eT p a:=(e1 60 _).trans (by kernel_rfl)
def oV (jH:ae fy)(p:Int)(x:b6)(i:Int):Option (Int):=
 bif (decide (i<(x.length:Int))) then
  (idx x i).bind fun v0=>
  bif (decide (v0.1<0)) then
   some 1
  else
   (idx x i).bind fun v1=>
   bif (decide (v1.1≥1024)) then
    some 1
   else
    (idx x i).bind fun v2=>
    bif (decide (v2.2.1<1)) then
     some 1
    else
     (idx x i).bind fun v3=>
     bif (decide (v3.2.1≥p)) then
      some 1
     else
      bif (decide (i>0)) then
       (idx x i).bind fun v4=>
       (idx x (IntKind.wrap .i64 (i - 1))).bind fun v5=>
       bif (decide (v4.1≤v5.1)) then
        some 6
       else
        jH p x (IntKind.wrap .i64 (i+1))
      else
       jH p x (IntKind.wrap .i64 (i+1))
 else
  some 0
theorem vm (p x i):fy p x i=oV fy p x i:=(l1 62 0 _).trans (by kernel_rfl)
def Bk (jH:ae fy)(p:Int)(x:b6):Option (Int):=
 jH p x 0
theorem JO (p x):qq p x=Bk fy p x:=(e1 62 _).trans (by kernel_rfl)
def p7 (p8:ae gv)(x:b6)(i:Int)(out:List Int)(c:Int)(c2:ji):Option (List Int):=
 bif (decide (i<(x.length:Int))) then
  (idx x i).bind fun v0=>
  (idx c2 v0.1).bind fun v1=>
  p8 x i v1.2.2.1 0 out c c2
 else
  some out
theorem wS (x i out c c2):eG x i out c c2=p7 gv x i out c c2:=(l1 63 0 _).trans (by kernel_rfl)
def p9 (p8:ae gv)(qa:ae eG)(x:b6)(i:Int)(b:b6)(k:Int)(out:List Int)(c:Int)(c2:ji):Option (List Int):=
 bif (decide (k<(b.length:Int))) then
  (idx b k).bind fun v0=>
  (idx b k).bind fun v1=>
  (idx out v1.1).bind fun _=>
  (out[v1.1.toNat]?).bind fun v2=>
  (idx x i).bind fun v3=>
  (idx b k).bind fun v4=>
  let e5:Int:=(IntKind.wrap .i64 (v2+(IntKind.wrap .i64 (v3.2.1*v4.2.1))))
  bif (!(c==0)) then
  (idx out v0.1).bind fun _=>
  (out[v0.1.toNat]?).bind fun v6=>
  p8 x i b (IntKind.wrap .i64 (k+1)) (out.set v0.1.toNat (e5.tmod c)) c c2
  else none
 else
  qa x (IntKind.wrap .i64 (i+1)) out c c2
theorem wT (x i b k out c c2):gv x i b k out c c2=p9 gv eG x i b k out c c2:=(l1 63 1 _).trans (by kernel_rfl)
def C5 (qa:ae eG)(c:hZ)(x:b6):Option (List Int):=
 bif (gL 8 (c.2.1.length:Int) (c.2.1.length:Int)) then
 let e0:List Int:=(List.replicate (c.2.1.length:Int).toNat 0)
 qa x 0 e0 c.1 c.2.1
 else none
theorem Lr (c x):rN c x=C5 eG c x:=(e1 63 _).trans (by kernel_rfl)
def kx (ky:ae dg)(x:b6)(out:Nat)(i:Int)(aD:H4):Option ((Nat)×H4):=
 bif (decide (i<(x.length:Int))) then
  (idx x i).bind fun v0=>
  (idx x i).bind fun v1=>
  (af aD out).bind fun v2=>
  (idx v2 v0.1).bind fun _=>
  (af aD out).bind fun v3=>
  (v3[v0.1.toNat]?).bind fun v4=>
  ky x out (IntKind.wrap .i64 (i+1)) (gK aD out (v3.set v0.1.toNat v1.2.1))
 else
  some (out,aD)
theorem qw (x out i aD):dg x out i aD=kx dg x out i aD:=(l1 102038 0 _).trans (by kernel_rfl)
def vn (ky:ae dg)(x:b6)(n:Int)(aD:H4):Option ((Nat)×H4):=
 bif (gL 8 n n) then
 let e0:H4:=(aD++[some (List.replicate n.toNat 0)])
 ky x (aD.length+1:Nat) 0 e0
 else none
theorem E8 (x n aD):kG x n aD=vn dg x n aD:=(e1 102038 _).trans (by kernel_rfl)
def gU (gV:ae bR)(v:Nat)(i:Int)(out:b6)(aD:H4):Option b6:=
 (af aD v).bind fun v0=>
 bif (decide (i<(v0.length:Int))) then
  (af aD v).bind fun v1=>
  (idx v1 i).bind fun _=>
  (af aD v).bind fun v2=>
  (v2[i.toNat]?).bind fun v3=>
  bif (v3 != 0) then
   (af aD v).bind fun v4=>
   (idx v4 i).bind fun _=>
   (af aD v).bind fun v5=>
   (v5[i.toNat]?).bind fun v6=>
   bif (aB 16 2 out.length 1) then
   let e7:b6:=(out++([(i,(v6,()))]:b6))
   gV v (IntKind.wrap .i64 (i+1)) e7 aD
   else none
  else
   gV v (IntKind.wrap .i64 (i+1)) out aD
 else
  some out
theorem kz (v i out aD):bR v i out aD=gU bR v i out aD:=(l1 100040 0 _).trans (by kernel_rfl)
def oW (gV:ae bR)(v:Nat)(aD:H4):Option b6:=
 gV v 0 ([]:b6) aD
theorem vo (v aD):aC v aD=oW bR v aD:=(e1 100040 _).trans (by kernel_rfl)
end
end Go.Proofs.YtofjebmoebhiiaaGreatDoor.Ev
namespace Go.Proofs.YtofjebmoebhiiaaGreatDoor.Ev
open Go.Abs
noncomputable section
def sj (ly:ae cH)(a:b6)(b:b6)(i:Int):Option (Bool):=
 bif (decide (i<(a.length:Int))) then
  (idx a i).bind fun v0=>
  (idx b i).bind fun v1=>
  bif (!(BS yT (v0.1,(v0.2.1,())) (v1.1,(v1.2.1,())))) then
   some false
  else
   ly a b (IntKind.wrap .i64 (i+1))
 else
  some true
theorem C6 (a b i):cH a b i=sj cH a b i:=(l1 23 0 _).trans (by kernel_rfl)
def wU (ly:ae cH)(a:b6)(b:b6):Option (Bool):=
 bif ((a.length:Int) != (b.length:Int)) then
  some false
 else
  ly a b 0
theorem Gb (a b):iI a b=wU cH a b:=(e1 23 _).trans (by kernel_rfl)
end
end Go.Proofs.YtofjebmoebhiiaaGreatDoor.Ev
namespace Go.Proofs.YtofjebmoebhiiaaGreatDoor.Ev
open Go.Abs
noncomputable section
def qb (qc:ae eC)(n:Int)(j:Int)(c:Int)(c2:ji)(t:Int)(t2:Nat)(out:Int)(ag:Nat)(br:H0)(aD:H4):Option hZ:=
 bif (decide (j<n)) then
  let e0:Int:=(IntKind.wrap .i64 ((IntKind.wrap .i64 (n - 1)) - j))
  (idx c2 e0).bind fun v1=>
  bif (gL 8 n n) then
  let e2:H4:=(aD++[some (List.replicate n.toNat 0)])
  qc n j (aD.length+1:Nat) 0 c c2 t t2 out ag v1.1 v1.2.1 v1.2.2.1 br e2
  else none
 else
  (typed (hs br [] [] [] aD [] [] [] [] []) yH (.rv (.agg [⟨.int .i64,out⟩,⟨.ref 0,ag⟩]))).bind fun v3=>
  some v3
theorem wV (n j c c2 t t2 out ag br aD):jl n j c c2 t t2 out ag br aD=qb eC n j c c2 t t2 out ag br aD:=(l1 17 0 _).trans (by kernel_rfl)
def qd (qc:ae eC)(ID:ae jl)(oP:ae jW)(IE:ae jm)(bB:ae aC)(n:Int)(j:Int)(v:Nat)(i:Int)(c:Int)(c2:ji)(t:Int)(t2:Nat)(out:Int)(ag:Nat)(x:Int)(x2:ByteArray)(x3:b6)(br:H0)(aD:H4):Option hZ:=
 bif (decide (i<n)) then
  let e0:Int:=(IntKind.wrap .i64 ((IntKind.wrap .i64 (n - 1)) - i))
  (idx c2 e0).bind fun v1=>
  (oP v1.2.2.1 n).bind fun r2=>
  let e3:Int:=(IntKind.wrap .i64 ((IntKind.wrap .i64 (n - 1)) - j))
  (idx r2 e3).bind fun v4=>
  (af aD v).bind fun v5=>
  (idx v5 i).bind fun _=>
  (af aD v).bind fun v6=>
  (v6[i.toNat]?).bind fun v7=>
  qc n j v (IntKind.wrap .i64 (i+1)) c c2 t t2 out ag x x2 x3 br (gK aD v (v6.set i.toNat v4))
 else
  (IE x2).bind fun r8=>
  (bB v aD).bind fun r9=>
  let W6:ji:=([((IntKind.wrap .i64 (4 - x)),(r8,(r9,())))]:ji)
  (af br ag).bind fun v11=>
  bif (aB 48 3 v11.length 1) then
  ID n (IntKind.wrap .i64 (j+1)) c c2 t t2 out ((c5 br ag).length+1:Nat) ((c5 br ag)++[some (v11++W6)]) aD
  else none
theorem wW (n j v i c c2 t t2 out ag x x2 x3 br aD):eC n j v i c c2 t t2 out ag x x2 x3 br aD=qd eC jl jW jm aC n j v i c c2 t t2 out ag x x2 x3 br aD:=(l1 17 1 _).trans (by kernel_rfl)
def Ek (JP:ae tU)(c:hZ):Option hZ:=
 JP (c.2.1.length:Int) 0 c.1 c.2.1 0 (0:Nat) c.1 (0:Nat)
theorem Ng (c):tH c=Ek tU c:=(e1 17 _).trans (by kernel_rfl)
end
end Go.Proofs.YtofjebmoebhiiaaGreatDoor.Ev
