/- YtofjebmoebhiiaaGreatDoorZd: a part of the proof (Tab, Defs, Eqchain ..). No condition. -/
import Derived.Test.YtofjebmoebhiiaaGreatDoorZc
import Derived.KernelRfl
import Derived.Test.YtofjebmoebhiiaaGreatDoorProg
set_option linter.unusedVariables false
set_option linter.unusedSimpArgs false
set_option maxRecDepth 100000
set_option exponentiation.threshold 2000
namespace Go.Proofs.YtofjebmoebhiiaaGreatDoor.Ev
open Go.Abs
abbrev ff:Bool:=false
abbrev zI:Ty:= .int .i64
abbrev zT:Ty:= .pair zI (.pair zI .unit)
abbrev zC:Ty:= .pair zI (.pair .str (.pair (.slice (.st zT)) .unit))
abbrev zR:Ty:= .pair zI (.pair .str (.pair (.ref 2) .unit))
abbrev zH:Ty:= .st (.pair zI (.pair (.slice (.st zC)) .unit))
abbrev zW:Ty:= .st (.pair (.slice (.slice zI)) (.pair (.slice zI) (.pair zI (.pair (.slice zI) .unit))))
abbrev zB:List (Ty×Option Nat):=[(.bool,none)]
def tys:List fH:=[
 ⟨1, .fn,8,0,[],false⟩,
 ⟨2,zI,8,0,[],false⟩,
 ⟨3,zI,8,0,[],false⟩,
 ⟨4, .bool,1,0,[],false⟩,
 ⟨5,(.int .u8),1,0,[],false⟩,
 ⟨6,(.int .u8),1,0,[],false⟩,
 ⟨7,(.st (.pair zI (.pair zI (.pair .bool (.pair (.int .u8) .unit))))),24,0,[(0,1),(1,1),(2,1),(3,1)],false⟩,
 ⟨8,(.st (.pair zI (.pair zI (.pair .bool (.pair (.int .u8) .unit))))),24,0,[(0,1),(1,1),(2,1),(3,1)],false⟩,
 ⟨9, .str,16,0,[],false⟩,
 ⟨10, .str,16,0,[],false⟩,
 ⟨11, .str,16,0,[],false⟩,
 ⟨12,(.int .u64),8,0,[],false⟩,
 ⟨13,(.st (.pair .str (.pair (.int .u64) .unit))),24,0,[(0,1),(1,1)],false⟩,
 ⟨14,(.st (.pair .str (.pair (.int .u64) .unit))),24,0,[(0,1),(1,1)],false⟩,
 ⟨21,(.int .i32),4,0,[],false⟩,
 ⟨22,(.slice (.st zC)),24,42,[],false⟩,
 ⟨23,(.st (.pair zI (.pair (.ref 0) .unit))),32,0,[(0,1),(1,1)],false⟩,
 ⟨24,(.st (.pair zI (.pair (.ref 0) .unit))),32,0,[(0,1),(1,1)],false⟩,
 ⟨25,(.slice (.slice zI)),24,26,[],false⟩,
 ⟨26,(.slice zI),24,3,[],false⟩,
 ⟨27,zW,80,0,[(0,1),(1,1),(2,1),(3,1)],false⟩,
 ⟨28,zW,80,0,[(0,1),(1,1),(2,1),(3,1)],false⟩,
 ⟨29, .fn,8,0,[],false⟩,
 ⟨30, .fn,8,0,[],false⟩,
 ⟨31, .fn,8,0,[],false⟩,
 ⟨32,(.slice (.st (.pair zI (.pair (.ref 0) .unit)))),24,24,[],false⟩,
 ⟨33, .fn,8,0,[],false⟩,
 ⟨34,zI,8,0,[],false⟩,
 ⟨35, .fn,8,0,[],false⟩,
 ⟨37, .fn,8,0,[],false⟩,
 ⟨38, .fn,8,0,[],false⟩,
 ⟨39, .str,16,0,[],false⟩,
 ⟨40,(.slice (.st zT)),24,44,[],false⟩,
 ⟨41,(.st zC),48,0,[(0,1),(1,1),(2,1)],false⟩,
 ⟨42,(.st zC),48,0,[(0,1),(1,1),(2,1)],false⟩,
 ⟨43,(.st zT),16,0,[(0,1),(1,1)],false⟩,
 ⟨44,(.st zT),16,0,[(0,1),(1,1)],false⟩,
 ⟨45, .fn,8,0,[],false⟩,
 ⟨46,(.slice (.st zT)),24,58,[],false⟩,
 ⟨47,(.st zT),16,0,[(0,1),(1,1)],false⟩,
 ⟨48,(.st zT),16,0,[(0,1),(1,1)],false⟩,
 ⟨50, .fn,8,0,[],false⟩,
 ⟨51, .fn,8,0,[],false⟩,
 ⟨53, .fn,8,0,[],false⟩,
 ⟨54, .fn,8,0,[],false⟩,
 ⟨55, .fn,8,0,[],false⟩,
 ⟨56, .fn,8,0,[],false⟩,
 ⟨57,(.st zT),16,0,[(0,1),(1,1)],false⟩,
 ⟨58,(.st zT),16,0,[(0,1),(1,1)],false⟩,
 ⟨59, .fn,8,0,[],false⟩,
 ⟨60, .fn,8,0,[],false⟩,
 ⟨61, .fn,8,0,[],false⟩,
 ⟨62,(.slice (.st (.pair (.slice zI) (.pair .str .unit)))),24,101,[],false⟩,
 ⟨63,(.slice (.st (.pair (.slice zI) (.pair .str .unit)))),24,101,[],false⟩,
 ⟨64, .fn,8,0,[],false⟩,
 ⟨65, .fn,8,0,[],false⟩,
 ⟨66, .fn,8,0,[],false⟩,
 ⟨67, .fn,8,0,[],false⟩,
 ⟨68, .fn,8,0,[],false⟩,
 ⟨69, .fn,8,0,[],false⟩,
 ⟨70, .fn,8,0,[],false⟩,
 ⟨71, .fn,8,0,[],false⟩,
 ⟨72, .fn,8,0,[],false⟩,
 ⟨73,(.slice (.int .u32)),24,168,[],false⟩,
 ⟨74,(.st (.pair .bool (.pair (.slice (.int .u32)) .unit))),32,0,[(0,1),(1,1)],false⟩,
 ⟨75,(.st (.pair .bool (.pair (.slice (.int .u32)) .unit))),32,0,[(0,1),(1,1)],false⟩,
 ⟨76,(.st (.pair (.st (.pair .bool (.pair (.slice (.int .u32)) .unit))) (.pair (.st (.pair .bool (.pair (.slice (.int .u32)) .unit))) .unit))),64,0,[(0,2),(2,2)],false⟩,
 ⟨77,(.st (.pair (.st (.pair .bool (.pair (.slice (.int .u32)) .unit))) (.pair (.st (.pair .bool (.pair (.slice (.int .u32)) .unit))) .unit))),64,0,[(0,2),(2,2)],false⟩,
 ⟨79, .fn,8,0,[],false⟩,
 ⟨80, .fn,8,0,[],false⟩,
 ⟨81, .fn,8,0,[],false⟩,
 ⟨83, .fn,8,0,[],false⟩,
 ⟨84, .fn,8,0,[],false⟩,
 ⟨85,(.st (.pair .fn (.pair .bool .unit))),16,0,[(0,1),(1,1)],false⟩,
 ⟨86,(.st (.pair .fn (.pair .bool .unit))),16,0,[(0,1),(1,1)],false⟩,
 ⟨87, .fn,8,0,[],false⟩,
 ⟨88, .fn,8,0,[],false⟩,
 ⟨89,(.ptr 5),8,0,[],false⟩,
 ⟨90, .fn,8,0,[],false⟩,
 ⟨91, .fn,8,0,[],false⟩,
 ⟨92, .fn,8,0,[],false⟩,
 ⟨93,(.slice .bool),24,4,[],false⟩,
 ⟨94,(.st (.pair zH (.pair (.ref 6) (.pair (.ref 4) (.pair (.ref 7) zT))))),120,0,[(0,2),(2,1),(3,1),(4,1),(5,1),(6,1)],false⟩,
 ⟨95,(.st (.pair zH (.pair (.ref 6) (.pair (.ref 4) (.pair (.ref 7) zT))))),120,0,[(0,2),(2,1),(3,1),(4,1),(5,1),(6,1)],false⟩,
 ⟨97, .fn,8,0,[],false⟩,
 ⟨98, .fn,8,0,[],false⟩,
 ⟨99,(.slice zI),24,3,[],false⟩,
 ⟨100,(.st (.pair (.slice zI) (.pair .str .unit))),40,0,[(0,1),(1,1)],false⟩,
 ⟨101,(.st (.pair (.slice zI) (.pair .str .unit))),40,0,[(0,1),(1,1)],false⟩,
 ⟨102, .fn,8,0,[],false⟩,
 ⟨103, .fn,8,0,[],false⟩,
 ⟨104,(.slice (.slice zI)),24,99,[],false⟩,
 ⟨105, .fn,8,0,[],false⟩,
 ⟨106,(.slice .str),24,39,[],false⟩,
 ⟨107, .fn,8,0,[],false⟩,
 ⟨109, .fn,8,0,[],false⟩,
 ⟨110, .fn,8,0,[],false⟩,
 ⟨111, .fn,8,0,[],false⟩,
 ⟨112, .fn,8,0,[],false⟩,
 ⟨113, .fn,8,0,[],false⟩,
 ⟨114, .fn,8,0,[],false⟩,
 ⟨115, .fn,8,0,[],false⟩,
 ⟨116, .fn,8,0,[],false⟩,
 ⟨117, .fn,8,0,[],false⟩,
 ⟨118, .str,16,0,[],false⟩,
 ⟨120, .fn,8,0,[],false⟩,
 ⟨121, .fn,8,0,[],false⟩,
 ⟨122, .fn,8,0,[],false⟩,
 ⟨123, .fn,8,0,[],false⟩,
 ⟨124, .fn,8,0,[],false⟩,
 ⟨125, .fn,8,0,[],false⟩,
 ⟨127, .fn,8,0,[],false⟩,
 ⟨129, .fn,8,0,[],false⟩,
 ⟨130, .fn,8,0,[],false⟩,
 ⟨131, .fn,8,0,[],false⟩,
 ⟨132, .fn,8,0,[],false⟩,
 ⟨133, .fn,8,0,[],false⟩,
 ⟨134, .fn,8,0,[],false⟩,
 ⟨135, .fn,8,0,[],false⟩,
 ⟨136,(.slice (.slice (.st zT))),24,40,[],false⟩,
 ⟨137, .fn,8,0,[],false⟩,
 ⟨138, .fn,8,0,[],false⟩,
 ⟨139, .fn,8,0,[],false⟩,
 ⟨141, .fn,8,0,[],false⟩,
 ⟨143, .fn,8,0,[],false⟩,
 ⟨145, .fn,8,0,[],false⟩,
 ⟨146, .fn,8,0,[],false⟩,
 ⟨147, .fn,8,0,[],false⟩,
 ⟨148, .fn,8,0,[],false⟩,
 ⟨149,(.int .u64),8,0,[],false⟩,
 ⟨150, .fn,8,0,[],false⟩,
 ⟨151, .fn,8,0,[],false⟩,
 ⟨152, .fn,8,0,[],false⟩,
 ⟨153, .fn,8,0,[],false⟩,
 ⟨154, .fn,8,0,[],false⟩,
 ⟨155, .fn,8,0,[],false⟩,
 ⟨156, .fn,8,0,[],false⟩,
 ⟨157, .fn,8,0,[],false⟩,
 ⟨158, .fn,8,0,[],false⟩,
 ⟨159, .fn,8,0,[],false⟩,
 ⟨160, .fn,8,0,[],false⟩,
 ⟨161, .fn,8,0,[],false⟩,
 ⟨163, .fn,8,0,[],false⟩,
 ⟨164, .fn,8,0,[],false⟩,
 ⟨165, .fn,8,0,[],false⟩,
 ⟨167, .fn,8,0,[],false⟩,
 ⟨168,(.int .u32),4,0,[],false⟩,
 ⟨169,(.slice (.int .u8)),24,5,[],false⟩,
 ⟨170, .fn,8,0,[],false⟩,
 ⟨171,(.int .u64),8,0,[],false⟩,
 ⟨172, .fn,8,0,[],false⟩,
 ⟨173, .fn,8,0,[],false⟩,
 ⟨175, .fn,8,0,[],false⟩,
 ⟨176, .fn,8,0,[],false⟩,
 ⟨177,zI,8,0,[],false⟩,
 ⟨179, .fn,8,0,[],false⟩,
 ⟨180, .fn,8,0,[],false⟩,
 ⟨181, .fn,8,0,[],false⟩,
 ⟨182, .fn,8,0,[],false⟩,
 ⟨183,zI,8,0,[],false⟩,
 ⟨185, .fn,8,0,[],false⟩,
 ⟨186, .fn,8,0,[],false⟩,
 ⟨187, .fn,8,0,[],false⟩,
 ⟨188, .fn,8,0,[],false⟩,
 ⟨189, .fn,8,0,[],false⟩,
 ⟨190, .fn,8,0,[],false⟩,
 ⟨191, .fn,8,0,[],false⟩,
 ⟨193, .fn,8,0,[],false⟩,
 ⟨194, .fn,8,0,[],false⟩,
 ⟨195, .fn,8,0,[],false⟩,
 ⟨196, .fn,8,0,[],false⟩,
 ⟨197, .fn,8,0,[],false⟩,
 ⟨198, .fn,8,0,[],false⟩,
 ⟨199, .fn,8,0,[],false⟩,
 ⟨200, .fn,8,0,[],false⟩,
 ⟨201, .fn,8,0,[],false⟩,
 ⟨202, .fn,8,0,[],false⟩,
 ⟨204, .fn,8,0,[],false⟩,
 ⟨205, .fn,8,0,[],false⟩,
 ⟨206, .fn,8,0,[],false⟩,
 ⟨207, .fn,8,0,[],false⟩,
 ⟨208,(.st zT),16,0,[(0,1),(1,1)],true⟩,
 ⟨209,(.int .u64),8,0,[],false⟩,
 ⟨210, .fn,8,0,[],false⟩,
 ⟨211, .fn,8,0,[],false⟩,
 ⟨212, .fn,8,0,[],false⟩,
 ⟨214, .fn,8,0,[],false⟩,
 ⟨216, .fn,8,0,[],false⟩,
 ⟨217, .fn,8,0,[],false⟩,
 ⟨218, .fn,8,0,[],false⟩,
 ⟨219, .fn,8,0,[],false⟩,
 ⟨220, .fn,8,0,[],false⟩,
 ⟨221, .fn,8,0,[],false⟩,
 ⟨224, .fn,8,0,[],false⟩,
 ⟨225, .fn,8,0,[],false⟩,
 ⟨227, .fn,8,0,[],false⟩,
 ⟨228, .fn,8,0,[],false⟩,
 ⟨234,(.int .u8),1,0,[],false⟩,
 ⟨235,(.int .u8),1,0,[],false⟩,
 ⟨236, .fn,8,0,[],false⟩,
 ⟨238,(.int .i32),4,0,[],false⟩,
 ⟨239,(.int .i32),4,0,[],false⟩]
def ae:List HT:=[⟨42,(.st zC),0⟩,⟨42,(.st zR),0⟩,⟨44,(.st zT),0⟩,⟨58,(.st zT),0⟩,⟨3,zI,0⟩,⟨95,(.st (.pair zH (.pair (.ref 6) (.pair (.ref 4) (.pair (.ref 7) zT))))),1⟩,⟨26,(.pW zI),0⟩,⟨4, .bool,0⟩,⟨101,(.st (.pair (.ref 4) (.pair .str .unit))),0⟩,⟨24,zH,0⟩]
def anu:List (Nat×Nat):=[(100045,45),(100145,45),(100046,46),(100146,46),(100018,18),(100084,84),(101038,38),(102038,38),(100040,40),(100070,70),(100071,70),(100109,109),(100110,109)]
def real (v:Nat):Nat:=bif Nat.blt v 100000 then v else (Go.Abs.look anu v).getD 0
def sigs:List (Nat×Iq):=[
 (3,⟨[.v zH, .v zW],zB,none,[],none⟩),
 (4,⟨[.v zH, .v zW],zB,none,[],none⟩),
 (5,⟨[.v zH, .v zW],zB,none,[],none⟩),
 (6,⟨[.v zH, .v zW],zB,none,[],none⟩),
 (7,⟨[],zB,none,[],none⟩),
 (8,⟨[.v zW],zB,none,[],none⟩),
 (9,⟨[.v zW],zB,none,[],none⟩),
 (10,⟨[.v zW],zB,none,[],none⟩),
 (11,⟨[.v zW],zB,none,[],none⟩),
 (12,⟨[.v zH, .v zI],zB,none,[],none⟩),
 (13,⟨[],zB,none,[],none⟩),
 (14,⟨[.v zW, .v zI],[(zH,none)],none,[],none⟩),
 (15,⟨[.v zH],[((.st (.pair zI (.pair (.ref 0) .unit))),none)],none,[(0,true)],none⟩),
 (16,⟨[.v zH],[(zI,none)],none,[],none⟩),
 (17,⟨[.v zH],[(zH,none)],none,[],none⟩),
 (18,⟨[.v zH],[(zH,none),(zI,none)],none,[],none⟩),
 (19,⟨[.v zH, .v zH],zB,none,[],none⟩),
 (20,⟨[.v zH],[((.slice (.st zT)),none),((.st zT),none),(zI,none)],none,[],none⟩),
 (21,⟨[.v (.slice (.st zT)), .v (.st zT)],zB,none,[],none⟩),
 (22,⟨[.v zH],[((.slice (.st zT)),none),(zI,none),(zI,none)],none,[],none⟩),
 (23,⟨[.v (.slice (.st zT)), .v (.slice (.st zT))],zB,none,[],none⟩),
 (24,⟨[.v zH],[((.slice (.st zT)),none),((.st zT),none),(zI,none)],none,[],none⟩),
 (25,⟨[.v zH],[((.slice (.st zT)),none),(zI,none),(zI,none)],none,[],none⟩),
 (26,⟨[.v zH],[((.slice (.st zT)),none),((.st zT),none),(zI,none)],none,[],none⟩),
 (27,⟨[.v zH],[((.slice (.st zT)),none),(zI,none),(zI,none)],none,[],none⟩),
 (28,⟨[],[(zH,none)],none,[],none⟩),
 (29,⟨[.v zH],[((.slice (.st zT)),none)],none,[],none⟩),
 (30,⟨[.v (.slice (.st zT)), .v (.slice (.st zT))],zB,none,[],none⟩),
 (31,⟨[.v (.slice zI)],[((.slice (.st zT)),some 44)],none,[],none⟩),
 (32,⟨[.v (.slice (.slice zI)), .v (.slice zI), .v zI, .v zI, .v zI],[((.slice (.st (.pair (.slice zI) (.pair .str .unit)))),none)],none,[],none⟩),
 (33,⟨[.v (.slice (.st (.pair (.slice zI) (.pair .str .unit)))), .v zI],[(zH,none),(zI,none)],none,[],none⟩),
 (34,⟨[.v zI],[(zI,none)],none,[],none⟩),
 (35,⟨[.v zH, .v zI, .v zI, .v zI, .v zI],[(zH,none)],none,[],none⟩),
 (36,⟨[.v zI],zB,none,[],none⟩),
 (37,⟨[.v zH, .v zI],[(zI,none)],none,[],none⟩),
 (38,⟨[.v (.slice (.st zT)), .v zI],[((.slice zI),none)],none,[],none⟩),
 (39,⟨[.v .str],[(.str,none)],none,[],none⟩),
 (40,⟨[.v (.slice zI)],[((.slice (.st zT)),none)],none,[],none⟩),
 (41,⟨[.v zH],[(zI,none)],none,[],none⟩),
 (42,⟨[.v .str],[((.st (.pair (.st (.pair .bool (.pair (.slice (.int .u32)) .unit))) (.pair (.st (.pair .bool (.pair (.slice (.int .u32)) .unit))) .unit))),none),(.bool,none)],none,[],none⟩),
 (43,⟨[.v (.st (.pair (.st (.pair .bool (.pair (.slice (.int .u32)) .unit))) (.pair (.st (.pair .bool (.pair (.slice (.int .u32)) .unit))) .unit)))],[((.st (.pair (.st (.pair .bool (.pair (.slice (.int .u32)) .unit))) (.pair (.st (.pair .bool (.pair (.slice (.int .u32)) .unit))) .unit))),none)],none,[],none⟩),
 (44,⟨[.v (.st (.pair (.st (.pair .bool (.pair (.slice (.int .u32)) .unit))) (.pair (.st (.pair .bool (.pair (.slice (.int .u32)) .unit))) .unit)))],[(.str,none)],none,[],none⟩),
 (47,⟨[.v zH],[((.ptr 5),none)],none,[(5,true),(6,true),(4,true),(7,true)],none⟩),
 (48,⟨[.v (.ptr 5), .v zI],[],none,[(5,true),(6,true),(4,true),(7,true)],none⟩),
 (49,⟨[.v (.ptr 5)],[((.slice (.st zT)),none)],none,[(5,ff),(6,ff),(4,ff),(7,ff)],none⟩),
 (50,⟨[.v (.ref 3), .fn 51 []],[],none,[(3,true)],none⟩),
 (51,⟨[.v (.st zT), .v (.st zT)],[(zI,none)],none,[],none⟩),
 (52,⟨[.v zH, .v zI, .v zI],[(zI,none)],none,[],none⟩),
 (53,⟨[.v (.slice (.slice zI))],[((.slice (.slice zI)),none)],none,[],none⟩),
 (54,⟨[.v (.slice (.slice zI)), .v zI, .v zI, .v zI],[((.slice (.slice zI)),none)],none,[],none⟩),
 (55,⟨[.v zI],[(.str,none)],none,[],none⟩),
 (56,⟨[.v (.slice (.slice zI)), .v (.slice .str)],[((.slice (.st (.pair (.slice zI) (.pair .str .unit)))),none),(zI,none)],none,[],none⟩),
 (57,⟨[.v (.slice (.st (.pair (.slice zI) (.pair .str .unit))))],[(zI,none)],none,[],none⟩),
 (58,⟨[.v (.slice zI)],[((.slice (.slice zI)),none)],none,[],none⟩),
 (59,⟨[.v (.slice zI), .v (.slice zI)],[(zI,none)],none,[],none⟩),
 (60,⟨[.v zI, .v zI],[(zI,none)],none,[],none⟩),
 (61,⟨[.v .str],zB,none,[],none⟩),
 (62,⟨[.v zI, .v (.slice (.st zT))],[(zI,none)],none,[],none⟩),
 (63,⟨[.v zH, .v (.slice (.st zT))],[((.slice zI),none)],none,[],none⟩),
 (64,⟨[.v .str, .v .str],[(zI,none)],none,[],none⟩),
 (65,⟨[.v .str],[(.str,none),(.str,none),(.bool,none)],none,[],none⟩),
 (66,⟨[.v .str],[(.str,none)],none,[],none⟩),
 (67,⟨[.v zI],zB,none,[],none⟩),
 (68,⟨[.v .str],zB,none,[],none⟩),
 (69,⟨[.v zI, .v (.slice (.st zT))],[(zI,none)],none,[],none⟩),
 (71,⟨[.v (.st zT), .rp zI],zB,none,[],none⟩),
 (72,⟨[.v (.st zT), .rp zH, .rp (.st zC)],zB,none,[],none⟩),
 (73,⟨[.v zH, .v (.slice (.st zT))],[((.slice (.st zT)),none)],none,[],none⟩),
 (74,⟨[.v (.st (.pair (.st (.pair .bool (.pair (.slice (.int .u32)) .unit))) (.pair (.st (.pair .bool (.pair (.slice (.int .u32)) .unit))) .unit))), .v (.st (.pair (.st (.pair .bool (.pair (.slice (.int .u32)) .unit))) (.pair (.st (.pair .bool (.pair (.slice (.int .u32)) .unit))) .unit)))],[(zI,none)],none,[],none⟩),
 (75,⟨[.v .str, .v .str],[(.str,none),(.str,none),(.bool,none)],none,[],none⟩),
 (76,⟨[.v .str],[((.st (.pair .bool (.pair (.slice (.int .u32)) .unit))),none),(.bool,none)],none,[],none⟩),
 (77,⟨[.v zI],[((.st (.pair .bool (.pair (.slice (.int .u32)) .unit))),none)],none,[],none⟩),
 (78,⟨[.v (.st (.pair .bool (.pair (.slice (.int .u32)) .unit)))],[(zI,none)],none,[],none⟩),
 (79,⟨[.v (.st (.pair .bool (.pair (.slice (.int .u32)) .unit))), .v (.st (.pair .bool (.pair (.slice (.int .u32)) .unit)))],[(zI,none)],none,[],none⟩),
 (80,⟨[.v (.st (.pair .bool (.pair (.slice (.int .u32)) .unit))), .v (.st (.pair .bool (.pair (.slice (.int .u32)) .unit)))],[((.st (.pair .bool (.pair (.slice (.int .u32)) .unit))),none)],none,[],none⟩),
 (81,⟨[.v (.st (.pair .bool (.pair (.slice (.int .u32)) .unit)))],[((.st (.pair .bool (.pair (.slice (.int .u32)) .unit))),none)],none,[],none⟩),
 (82,⟨[.v (.st (.pair (.st (.pair .bool (.pair (.slice (.int .u32)) .unit))) (.pair (.st (.pair .bool (.pair (.slice (.int .u32)) .unit))) .unit)))],[((.st (.pair .bool (.pair (.slice (.int .u32)) .unit))),none)],none,[],none⟩),
 (83,⟨[.v (.st (.pair .bool (.pair (.slice (.int .u32)) .unit)))],[(.str,none)],none,[],none⟩),
 (84,⟨[.v (.slice (.st zT))],[((.slice (.st zT)),none)],none,[],none⟩),
 (85,⟨[.v (.slice (.st zT))],[(zI,none),(.bool,none)],none,[],none⟩),
 (86,⟨[.v zI, .v zI],[(zI,none),(zI,none)],none,[],none⟩),
 (87,⟨[.v zI, .v (.slice (.st zT)), .v zI, .v (.slice (.st zT))],[((.slice (.st zT)),none),(zI,none)],none,[],none⟩),
 (88,⟨[.v zI, .v zI],[(zI,none)],none,[],none⟩),
 (89,⟨[.v (.slice zI)],[(zI,none)],none,[],none⟩),
 (90,⟨[.v (.ref 3), .v zI, .v zI, .v zI, .fn 51 []],[],none,[(3,true)],none⟩),
 (91,⟨[.v (.int .u64)],[(zI,none)],none,[],none⟩),
 (92,⟨[.v zI, .v (.slice (.slice zI))],[(zI,none)],none,[],none⟩),
 (93,⟨[.v (.slice zI), .v zI, .v zI],[((.slice zI),none)],none,[],none⟩),
 (94,⟨[.v (.slice (.slice zI))],[((.slice (.slice zI)),none)],none,[],none⟩),
 (95,⟨[.v zI, .v zI],[(.str,none)],none,[],none⟩),
 (96,⟨[.v (.slice (.slice zI))],[(zI,none)],none,[],none⟩),
 (97,⟨[.v (.slice zI), .v (.slice zI)],zB,none,[],none⟩),
 (98,⟨[.v (.slice (.st (.pair (.slice zI) (.pair .str .unit))))],[((.slice (.st (.pair (.slice zI) (.pair .str .unit)))),none)],none,[],none⟩),
 (99,⟨[.v (.slice (.st (.pair (.slice zI) (.pair .str .unit)))), .v zI],[(zI,none)],none,[],none⟩),
 (100,⟨[.v (.slice (.st (.pair (.slice zI) (.pair .str .unit)))), .v zI, .v (.slice zI)],[(zI,none)],none,[],none⟩),
 (101,⟨[.v (.slice zI), .v zI],[((.slice zI),none)],none,[],none⟩),
 (102,⟨[.v .str],zB,none,[],none⟩),
 (103,⟨[.v .str],zB,none,[],none⟩),
 (104,⟨[.v .str, .v .str],[(zI,none)],none,[],none⟩),
 (105,⟨[.v .str, .v .str],[(.str,none)],none,[],none⟩),
 (106,⟨[.v .str],[(.bool,none),((.slice zI),none)],none,[],none⟩),
 (107,⟨[.v .bool, .v (.slice zI)],[(.str,none)],none,[],none⟩),
 (108,⟨[.v .str],[((.st (.pair (.st (.pair .bool (.pair (.slice (.int .u32)) .unit))) (.pair (.st (.pair .bool (.pair (.slice (.int .u32)) .unit))) .unit))),none),(.bool,none)],none,[],none⟩),
 (110,⟨[.v (.st (.pair .bool (.pair (.slice (.int .u32)) .unit))), .v (.st (.pair .bool (.pair (.slice (.int .u32)) .unit)))],[((.st (.pair .bool (.pair (.slice (.int .u32)) .unit))),none)],none,[],none⟩),
 (111,⟨[.v .str, .v .str],[(.str,none),(.str,none),(.bool,none)],none,[],none⟩),
 (112,⟨[.v .str, .v .str],[(.str,none),(.bool,none)],none,[],none⟩),
 (113,⟨[.v .bool, .v (.slice (.int .u32))],[((.st (.pair .bool (.pair (.slice (.int .u32)) .unit))),none)],none,[],none⟩),
 (114,⟨[.v (.slice (.int .u32)), .v (.slice (.int .u32))],[(zI,none)],none,[],none⟩),
 (115,⟨[.v zI, .v zI],[(zI,none)],none,[],none⟩),
 (116,⟨[.v (.slice (.int .u32))],[(zI,none)],none,[],none⟩),
 (117,⟨[.v (.slice (.int .u32)), .v (.slice (.int .u32))],[((.slice (.int .u32)),none),((.slice (.int .u32)),none)],none,[],none⟩),
 (118,⟨[.v (.slice (.int .u32))],[((.slice (.int .u32)),none)],none,[],none⟩),
 (119,⟨[.v zI],[(zI,none),(zI,none)],none,[],none⟩),
 (120,⟨[.v zI, .v zI],[(zI,none)],none,[],none⟩),
 (121,⟨[.v zI, .v zI],[(zI,none)],none,[],none⟩),
 (122,⟨[.v zI, .v (.slice (.slice (.st zT)))],[(zI,none)],none,[],none⟩),
 (123,⟨[.v zI, .v (.slice (.st zT)), .v zI, .v (.slice (.st zT))],[((.slice (.st zT)),none)],none,[],none⟩),
 (124,⟨[.v (.ref 3), .v zI, .v zI, .fn 51 []],[],none,[(3,true)],none⟩),
 (125,⟨[.v (.ref 3), .v zI, .v zI, .fn 51 []],[],none,[(3,true)],none⟩),
 (126,⟨[.v (.ref 3), .v zI, .v zI, .fn 51 []],[],none,[(3,true)],none⟩),
 (127,⟨[.v (.ref 3), .v zI, .v zI, .fn 51 []],[(zI,none),(zI,none)],none,[(3,true)],none⟩),
 (128,⟨[.v (.ref 3), .v zI, .v zI, .fn 51 []],[],none,[(3,true)],none⟩),
 (129,⟨[.v (.ref 3), .v zI, .v zI, .fn 51 []],zB,none,[(3,true)],none⟩),
 (130,⟨[.v (.ref 3), .v zI, .v zI, .v zI, .fn 51 []],[(zI,none)],none,[(3,true)],none⟩),
 (131,⟨[.v (.ref 3), .v zI, .v zI, .v zI, .fn 51 []],[(zI,none),(.bool,none)],none,[(3,true)],none⟩),
 (132,⟨[.v (.int .u32)],[(zI,none)],none,[],none⟩),
 (133,⟨[.v (.int .u64)],[(zI,none)],none,[],none⟩),
 (134,⟨[.v (.slice zI), .v zI],zB,none,[],none⟩),
 (135,⟨[.v (.slice zI)],[((.slice zI),none),(zI,none)],none,[],none⟩),
 (136,⟨[.v (.slice zI)],[((.slice (.slice zI)),none)],none,[],none⟩),
 (137,⟨[.v (.slice (.slice zI)), .v (.slice zI)],[((.slice (.slice zI)),none)],none,[],none⟩),
 (138,⟨[.v .str, .v .str],[(.str,none)],none,[],none⟩),
 (139,⟨[.v zI],[(.str,none)],none,[],none⟩),
 (140,⟨[.v (.slice zI)],[(zI,none)],none,[],none⟩),
 (141,⟨[.v (.slice (.slice zI)), .v (.slice zI)],[(zI,none)],none,[],none⟩),
 (142,⟨[.v (.slice (.st (.pair (.slice zI) (.pair .str .unit))))],[((.ref 8),none)],none,[(8,true),(4,true)],none⟩),
 (143,⟨[.v .str],zB,none,[],none⟩),
 (144,⟨[.v .str],zB,none,[],none⟩),
 (145,⟨[.v .str, .v .str],[(.str,none)],none,[],none⟩),
 (146,⟨[.v (.slice zI), .v (.slice zI)],[(zI,none)],none,[],none⟩),
 (147,⟨[.v .str],[(zI,none),(.bool,none)],none,[],none⟩),
 (148,⟨[.v (.slice zI)],[((.slice zI),none)],none,[],none⟩),
 (149,⟨[.v (.st (.pair (.st (.pair .bool (.pair (.slice (.int .u32)) .unit))) (.pair (.st (.pair .bool (.pair (.slice (.int .u32)) .unit))) .unit)))],zB,none,[],none⟩),
 (150,⟨[.v .str, .v .str],[(zI,none)],none,[],none⟩),
 (151,⟨[.v .str, .v .str],[(.str,none),(.bool,none)],none,[],none⟩),
 (152,⟨[.v (.slice (.int .u32)), .v (.int .u32)],[((.slice (.int .u32)),none),((.int .u32),none)],none,[],none⟩),
 (153,⟨[.v (.slice (.int .u32)), .v (.slice (.int .u32))],[((.slice (.int .u32)),none),((.slice (.int .u32)),none)],none,[],none⟩),
 (154,⟨[.v zI, .v zI, .v zI],[(zI,none)],none,[],none⟩),
 (155,⟨[.v (.slice (.st zT)), .v (.slice (.st zT))],[],some (171,[(.slice (.st zT)),(.slice (.st zT))]),[],none⟩),
 (156,⟨[.v (.ref 3), .v zI, .v zI, .v zI, .fn 51 []],[],none,[(3,true)],none⟩),
 (157,⟨[.v zI],[((.int .u64),none)],none,[],none⟩),
 (161,⟨[.v .str, .v .str],[(.str,none),(.str,none)],none,[],none⟩),
 (162,⟨[.v .str],[(zI,none)],none,[],none⟩),
 (163,⟨[.v .str],[(.str,none)],none,[],none⟩),
 (164,⟨[.v (.st (.pair .bool (.pair (.slice (.int .u32)) .unit)))],zB,none,[],none⟩),
 (165,⟨[.v .str, .v (.int .u8)],[(zI,none)],none,[],none⟩),
 (167,⟨[.v zI],[(zI,none)],none,[],none⟩),
 (168,⟨[.v .str, .v .str],[(zI,none)],none,[],none⟩),
 (169,⟨[.v .str, .v .str],zB,none,[],none⟩),
 (170,⟨[.v (.slice (.int .u32)), .v (.int .u32)],[((.slice (.int .u32)),some 168)],none,[],none⟩),
 (171,⟨[.Lo, .bx (.slice (.st zT)), .bx (.slice (.st zT))],[],none,[],some [zI,(.st zT)]⟩),
 (173,⟨[.v (.slice zI), .v (.slice zI)],[((.slice zI),none)],none,[],none⟩),
 (174,⟨[.v .str, .v .str],[(.str,none)],none,[],none⟩),
 (175,⟨[.v .str, .v .str],[(.str,none)],none,[],none⟩),
 (176,⟨[.v (.st (.pair .bool (.pair (.slice (.int .u32)) .unit)))],[(zI,none)],none,[],none⟩),
 (178,⟨[.v .str],[((.int .u32),none),((.int .u32),none)],none,[],none⟩),
 (179,⟨[.v (.slice zI), .v (.slice zI)],[((.slice zI),none)],none,[],none⟩),
 (196,⟨[.v zH],[],some (197,[zH]),[],none⟩),
 (197,⟨[.Lo, .bx zH],[],none,[],some [zI]⟩),
 (198,⟨[.v zH],[],some (199,[zH]),[],none⟩),
 (199,⟨[.Lo, .bx zH],[],none,[],some [zI]⟩),
 (100045,⟨[.v zH, .c [⟨.fn,(197:Nat)⟩,⟨.bool,false⟩], .fn 46 []],[((.ref 3),none),((.st zT),none),(zI,none)],none,[(3,true)],none⟩),
 (100145,⟨[.v zH, .c [⟨.fn,(199:Nat)⟩,⟨.bool,true⟩], .fn 46 []],[((.ref 3),none),((.st zT),none),(zI,none)],none,[(3,true)],none⟩),
 (100046,⟨[.c [⟨.fn,(197:Nat)⟩,⟨.bool,false⟩], .v zH],[((.ref 3),none),((.st zT),none)],none,[(3,true)],none⟩),
 (100146,⟨[.c [⟨.fn,(199:Nat)⟩,⟨.bool,true⟩], .v zH],[((.ref 3),none),((.st zT),none)],none,[(3,true)],none⟩),
 (100018,⟨[.v zH],[((.st (.pair zI (.pair (.ref 1) .unit))),none),(zI,none)],none,[(1,true),(2,true)],none⟩),
 (100084,⟨[.v (.pW (.st zT))],[((.slice (.st zT)),none)],none,[],none⟩),
 (101038,⟨[.v (.slice (.st zT)), .v zI],[((.slice zI),some 3)],none,[],none⟩),
 (102038,⟨[.v (.slice (.st zT)), .v zI],[((.ref 4),none)],none,[(4,true)],none⟩),
 (100040,⟨[.v (.ref 4)],[((.slice (.st zT)),none)],none,[(4,ff)],none⟩),
 (100070,⟨[.v (.slice (.st zT)), .fn 71 [zI]],zB,none,[],none⟩),
 (100071,⟨[.v (.slice (.st zT)), .fn 72 [zH,(.st zC)]],zB,none,[],none⟩),
 (100109,⟨[.v (.slice (.st zT)), .fn 71 [zI]],[(zI,none)],none,[],none⟩),
 (100110,⟨[.v (.slice (.st zT)), .fn 72 [zH,(.st zC)]],[(zI,none)],none,[],none⟩)]
def sig (v:Nat):Iq:=(Go.Abs.look sigs v).getD ⟨[],[],none,[],none⟩
def anv:List (Nat×List Nat):=[(45,[100045,100145]),(46,[100046,100146]),(70,[100070,100071]),(109,[100109,100110])]
def aiw (f:Nat):List Nat:=(Go.Abs.look anv f).getD [f]
def hints:List (Nat×List (List (Nat×Bool))):=[
 (3,[[(21,ff),(22,ff),(23,ff)],[(6,ff),(7,ff),(8,ff),(9,ff),(10,ff),(21,ff),(22,ff),(23,ff)],[(6,ff),(7,ff),(8,ff),(9,ff),(10,ff),(11,ff),(21,ff),(22,ff),(23,ff),(61,ff),(62,ff)],[(6,ff),(7,ff),(8,ff),(9,ff),(10,ff),(11,ff),(13,ff),(21,ff),(22,ff),(23,ff),(61,ff),(62,ff),(71,ff),(72,ff)]]),
 (4,[[(20,ff),(21,ff),(22,ff)]]),
 (5,[[(20,ff),(21,ff),(22,ff)]]),
 (6,[[(20,ff),(21,ff),(22,ff)]]),
 (9,[[(4,ff),(10,ff),(60,ff),(61,ff),(62,ff)],[(4,ff),(10,ff),(15,ff),(16,ff),(60,ff),(61,ff),(62,ff),(86,ff),(87,ff),(88,ff)]]),
 (10,[[(5,ff),(6,ff),(8,ff),(9,ff),(11,ff),(12,ff),(13,ff),(38,ff),(39,ff),(40,ff)]]),
 (12,[[(13,ff),(14,ff),(15,ff)]]),
 (14,[[(2,ff),(4,ff),(7,ff),(9,ff)],[(2,ff),(4,ff),(7,ff),(9,ff),(10,ff),(11,ff),(12,ff)]]),
 (15,[[(1,ff),(2,ff),(3,ff),(4,ff)]]),
 (16,[[(1,ff),(3,ff)]]),
 (17,[[(1,ff),(2,ff),(3,ff),(4,ff),(5,ff)],[(1,ff),(2,ff),(3,ff),(4,ff),(5,ff),(6,ff),(7,ff),(8,ff)]]),
 (18,[[(1,ff),(2,ff),(5,ff),(6,ff),(34,ff),(35,ff)],[(1,ff),(2,ff),(5,ff),(6,ff),(11,ff)],[(1,ff),(2,ff),(5,ff),(6,ff),(11,ff),(78,ff),(79,ff),(80,ff)]]),
 (19,[[(2,ff),(3,ff),(5,ff)]]),
 (22,[[(1,ff),(5,ff),(6,ff)]]),
 (23,[[(0,ff),(1,ff),(5,ff)]]),
 (25,[[(1,ff),(5,ff),(6,ff)],[(1,ff),(5,ff),(6,ff),(7,ff)]]),
 (26,[[(3,ff),(7,ff),(8,ff),(9,ff),(31,ff),(32,ff),(33,ff)]]),
 (27,[[(5,ff),(6,ff),(7,ff),(8,ff),(9,ff),(10,ff)],[(5,ff),(6,ff),(7,ff),(8,ff),(9,ff),(11,ff)],[(5,ff),(7,ff),(8,ff),(9,ff),(12,ff),(13,ff)]]),
 (29,[[(1,ff),(3,ff),(4,ff),(5,ff)],[(1,ff),(3,ff),(4,ff),(5,ff),(6,ff)],[(3,ff),(4,ff),(7,ff),(8,ff),(9,ff)],[(3,ff),(4,ff),(7,ff),(8,ff),(9,ff),(10,ff)],[(3,ff),(7,ff),(8,ff),(11,ff),(12,ff)]]),
 (30,[[(0,ff),(1,ff),(5,ff)]]),
 (31,[[(0,ff),(3,ff),(4,ff)]]),
 (32,[[(1,ff),(11,ff),(12,ff),(13,ff)]]),
 (33,[[(0,ff),(1,ff),(4,ff),(7,ff),(8,ff)],[(0,ff),(1,ff),(4,ff),(7,ff),(8,ff),(9,ff),(10,ff),(11,ff)],[(0,ff),(1,ff),(4,ff),(7,ff),(8,ff),(9,ff),(10,ff),(11,ff),(12,ff)]]),
 (35,[[(1,ff),(2,ff),(3,ff),(4,ff),(5,ff),(10,ff),(11,ff),(12,ff),(13,ff),(14,ff),(15,ff),(16,ff)],[(1,ff),(2,ff),(4,ff),(5,ff),(10,ff),(11,ff),(12,ff),(17,ff)]]),
 (36,[[(0,ff),(3,ff)]]),
 (37,[[(1,ff),(2,ff),(5,ff),(7,ff)],[(1,ff),(2,ff),(5,ff),(8,ff)]]),
 (38,[[(0,ff),(5,ff),(6,ff)]]),
 (40,[[(0,ff),(3,ff),(4,ff)]]),
 (41,[[(1,ff),(3,ff),(18,ff),(19,ff),(20,ff)]]),
 (48,[[(0,ff),(1,ff),(4,ff),(5,ff)],[(0,ff),(1,ff),(4,ff),(5,ff),(6,ff),(7,ff),(8,ff)]]),
 (49,[[(0,ff),(3,ff),(4,ff)]]),
 (52,[[(1,ff),(2,ff),(3,ff),(7,ff),(8,ff)]]),
 (53,[[(0,ff),(3,ff),(4,ff)]]),
 (54,[[(0,ff),(1,ff),(2,ff),(3,ff),(9,ff),(10,ff)],[(11,ff),(37,ff),(38,ff),(39,ff)]]),
 (56,[[(0,ff),(1,ff),(7,ff)],[(0,ff),(1,ff),(8,ff),(9,ff)],[(0,ff),(1,ff),(8,ff),(9,ff),(10,ff),(11,ff)]]),
 (57,[[(0,ff),(3,ff)],[(0,ff),(3,ff),(5,ff),(6,ff)]]),
 (58,[[(0,ff),(3,ff),(4,ff)]]),
 (59,[[(0,ff),(1,ff),(5,ff)]]),
 (60,[[(0,ff),(1,ff),(5,ff)]]),
 (62,[[(0,ff),(1,ff),(5,ff)]]),
 (63,[[(1,ff),(2,ff),(5,ff),(6,ff)],[(1,ff),(2,ff),(5,ff),(6,ff),(7,ff),(8,ff)]]),
 (65,[[(0,ff),(5,ff)]]),
 (67,[[(0,ff),(4,ff)]]),
 (69,[[(0,ff),(1,ff),(10,ff),(11,ff),(12,ff)]]),
 (73,[[(2,ff),(4,ff),(7,ff),(8,ff),(9,ff)]]),
 (76,[[(2,ff),(4,ff),(5,ff),(6,ff),(7,ff)],[(2,ff),(4,ff),(5,ff),(6,ff),(7,ff),(8,ff),(44,ff),(45,ff),(46,ff)]]),
 (77,[[(2,ff),(3,ff),(4,ff),(5,ff)]]),
 (80,[[(4,ff),(5,ff),(6,ff)]]),
 (83,[[(1,ff),(3,ff),(19,ff),(20,ff),(21,ff)],[(1,ff),(3,ff),(5,ff),(19,ff),(20,ff),(21,ff),(25,ff)],[(1,ff),(3,ff)],[(3,ff),(6,ff),(7,ff)]]),
 (89,[[(0,ff),(3,ff)]]),
 (90,[[(0,ff),(1,ff),(2,ff),(3,ff),(4,ff),(10,ff),(11,ff)]]),
 (92,[[(0,ff),(1,ff),(5,ff),(6,ff)],[(0,ff),(5,ff),(7,ff),(8,ff)],[(0,ff),(5,ff),(7,ff),(8,ff),(9,ff)],[(0,ff),(5,ff),(7,ff),(8,ff),(10,ff),(11,ff)],[(0,ff),(5,ff),(7,ff),(8,ff),(10,ff),(11,ff),(12,ff),(13,ff)]]),
 (93,[[(0,ff),(1,ff),(2,ff),(7,ff),(8,ff)]]),
 (94,[[(0,ff),(3,ff),(4,ff)],[(0,ff),(3,ff),(4,ff),(5,ff),(6,ff)]]),
 (96,[[(0,ff),(3,ff)],[(0,ff),(3,ff),(5,ff),(6,ff)]]),
 (97,[[(0,ff),(1,ff),(5,ff)]]),
 (98,[[(3,ff),(4,ff)],[(3,ff),(4,ff),(5,ff)]]),
 (100,[[(0,ff),(1,ff),(2,ff),(7,ff)]]),
 (101,[[(0,ff),(1,ff),(5,ff),(6,ff)]]),
 (105,[[(9,ff),(10,ff),(11,ff),(12,ff),(13,ff),(14,ff)],[(9,ff),(10,ff),(11,ff),(12,ff),(13,ff),(14,ff),(15,ff)],[(9,ff),(11,ff),(13,ff),(16,ff)]]),
 (106,[[(0,ff),(4,ff),(5,ff),(6,ff)]]),
 (107,[[(1,ff),(5,ff),(6,ff)]]),
 (110,[[(2,ff),(3,ff),(4,ff),(5,ff),(20,ff),(21,ff),(22,ff)],[(2,ff),(3,ff),(4,ff),(5,ff),(6,ff),(7,ff),(8,ff),(20,ff),(21,ff),(22,ff),(28,ff),(29,ff),(30,ff)]]),
 (114,[[(0,ff),(1,ff),(5,ff)]]),
 (115,[[(0,ff),(1,ff)]]),
 (116,[[(0,ff),(3,ff),(4,ff)]]),
 (118,[[(0,ff)]]),
 (122,[[(0,ff),(8,ff),(9,ff),(10,ff)]]),
 (123,[[(4,ff),(6,ff),(9,ff)]]),
 (124,[[(0,ff),(1,ff),(2,ff),(3,ff),(8,ff)],[(0,ff),(1,ff),(2,ff),(3,ff),(8,ff),(9,ff)]]),
 (125,[[(0,ff),(3,ff),(8,ff),(9,ff),(10,ff),(11,ff)],[(0,ff),(3,ff),(8,ff),(9,ff),(12,ff)]]),
 (126,[[(0,ff),(1,ff),(8,ff),(9,ff),(10,ff),(11,ff)]]),
 (128,[[(0,ff),(8,ff),(9,ff)]]),
 (129,[[(0,ff),(1,ff),(2,ff),(3,ff),(9,ff),(10,ff)],[(0,ff),(1,ff),(2,ff),(3,ff),(9,ff),(10,ff)],[(0,ff),(1,ff),(2,ff),(3,ff),(9,ff),(10,ff),(11,ff)],[(0,ff),(1,ff),(2,ff),(3,ff),(9,ff),(10,ff),(12,ff)]]),
 (130,[[(0,ff),(1,ff),(4,ff),(11,ff),(12,ff)],[(0,ff),(1,ff),(4,ff),(11,ff),(12,ff)],[(0,ff),(1,ff),(4,ff),(11,ff),(12,ff)]]),
 (131,[[(0,ff),(1,ff),(4,ff),(12,ff),(13,ff)],[(0,ff),(1,ff),(4,ff),(12,ff),(13,ff)],[(0,ff),(1,ff),(4,ff),(12,ff),(13,ff)],[(0,ff),(1,ff),(4,ff),(12,ff),(13,ff)],[(0,ff),(1,ff),(4,ff),(12,ff),(13,ff)]]),
 (134,[[(0,ff),(1,ff),(5,ff)]]),
 (135,[[(4,ff),(5,ff),(6,ff)],[(4,ff),(5,ff),(6,ff),(7,ff)]]),
 (136,[[(0,ff),(3,ff),(4,ff)],[(0,ff),(3,ff),(4,ff),(5,ff),(6,ff)]]),
 (137,[[(0,ff),(1,ff),(5,ff),(6,ff),(7,ff)]]),
 (139,[[(3,ff),(5,ff)],[(0,ff),(6,ff)]]),
 (140,[[(0,ff),(3,ff)],[(0,ff),(4,ff)]]),
 (141,[[(0,ff),(1,ff),(5,ff)]]),
 (142,[[(0,ff),(3,ff),(4,ff)]]),
 (144,[[(3,ff),(4,ff)]]),
 (145,[[(5,ff),(6,ff)]]),
 (146,[[(0,ff),(1,ff),(5,ff)]]),
 (147,[[(0,ff),(4,ff),(5,ff)]]),
 (148,[[(0,ff)]]),
 (150,[[(0,ff),(1,ff),(5,ff),(6,ff),(7,ff),(8,ff),(9,ff),(10,ff)]]),
 (152,[[(0,ff),(1,ff),(6,ff),(7,ff),(8,ff)]]),
 (153,[[(4,ff),(6,ff),(7,ff),(8,ff),(9,ff),(10,ff)],[(4,ff),(6,ff),(7,ff),(8,ff),(9,ff),(10,ff),(12,ff),(13,ff)],[(4,ff),(6,ff),(7,ff),(8,ff),(9,ff),(10,ff),(12,ff),(14,ff),(123,ff),(124,ff)],[(4,ff),(6,ff),(7,ff),(8,ff),(9,ff),(10,ff),(12,ff),(17,ff),(18,ff),(188,ff),(189,ff)]]),
 (154,[[(0,ff),(2,ff),(7,ff),(8,ff)]]),
 (156,[[(0,ff),(2,ff),(3,ff),(4,ff),(10,ff)]]),
 (161,[[(1,ff),(12,ff),(13,ff),(14,ff),(15,ff),(17,ff),(18,ff),(19,ff)],[(1,ff),(12,ff),(13,ff),(14,ff),(15,ff),(17,ff),(18,ff),(19,ff),(20,ff)],[(1,ff),(12,ff),(14,ff),(17,ff),(18,ff),(21,ff)]]),
 (168,[[(0,ff),(1,ff),(5,ff),(6,ff),(7,ff),(8,ff),(9,ff)],[(0,ff),(1,ff),(5,ff),(6,ff),(7,ff),(8,ff),(10,ff)]]),
 (170,[[(1,ff),(5,ff),(6,ff),(13,ff),(14,ff),(15,ff)]]),
 (171,[[(0,ff),(1,ff),(2,ff)]]),
 (173,[[(0,ff),(1,ff),(5,ff),(6,ff),(7,ff)]]),
 (176,[[(3,ff),(4,ff)]]),
 (178,[[(0,ff),(4,ff),(5,ff)],[(4,ff),(6,ff),(7,ff),(8,ff)]]),
 (179,[[(0,ff),(1,ff),(5,ff),(6,ff),(7,ff)]]),
 (197,[[(0,ff),(6,ff),(7,ff)]]),
 (199,[[(0,ff),(1,ff),(3,ff)],[(0,ff),(1,ff),(3,ff),(11,ff),(12,ff),(13,ff)]]),
 (100046,[[(2,ff),(3,ff),(4,ff),(5,ff),(7,ff),(8,ff),(27,ff),(28,ff)],[(2,ff),(3,ff),(4,ff),(5,ff),(7,ff),(8,ff)],[(3,ff),(5,ff),(7,ff),(8,ff),(10,ff),(11,ff),(12,ff),(13,ff)],[(4,ff),(5,ff),(137,ff),(138,ff),(139,ff)]]),
 (100146,[[(2,ff),(3,ff),(4,ff),(5,ff),(7,ff),(8,ff),(27,ff),(28,ff)],[(2,ff),(3,ff),(4,ff),(5,ff),(7,ff),(8,ff)],[(3,ff),(5,ff),(7,ff),(8,ff),(10,ff),(11,ff),(12,ff),(13,ff)],[(4,ff),(5,ff),(137,ff),(138,ff),(139,ff)]]),
 (100018,[[(1,ff),(2,ff),(5,ff),(6,ff),(34,ff),(35,ff)],[(1,ff),(2,ff),(5,ff),(6,ff),(11,ff)],[(1,ff),(2,ff),(5,ff),(6,ff),(11,ff),(78,ff),(79,ff),(80,ff)]]),
 (101038,[[(0,ff),(5,ff),(6,ff)]]),
 (102038,[[(0,ff),(5,ff),(6,ff)]]),
 (100040,[[(0,ff),(3,ff),(4,ff)]]),
 (100109,[[(0,ff),(1,ff),(7,ff),(8,ff)]]),
 (100110,[[(0,ff),(1,ff),(7,ff),(8,ff)]])]
def hint (v:Nat):List (List (Nat×Bool)):=(Go.Abs.look hints v).getD []
def alv:List (Nat×List (Nat×Site)):=[(3,[(21, .heap 9),(41, .vid 100018)]),(4,[(20, .heap 9)]),(5,[(20, .heap 9)]),(6,[(20, .heap 9)]),(17,[(29, .heap 4),(64, .vid 100040)]),(18,[(30, .heap 1)]),(33,[(32, .heap 4),(87, .vid 100040)]),(35,[(28, .heap 4),(78, .vid 100040),(99, .vid 102038),(145, .vid 100040)]),(47,[(9, .heap 6),(11, .heap 4),(13, .heap 7)]),(48,[(29, .vid 101038)]),(142,[(2, .heap 8),(3, .heap 8),(12, .heap 4),(25, .heap 8)]),(100045,[(6, .heap 3)]),(100145,[(6, .heap 3)]),(100046,[(4, .heap 3),(23, .pW)]),(100146,[(4, .heap 3),(23, .pW)]),(100018,[(30, .heap 1)]),(102038,[(4, .heap 4),(8, .heap 4)])]
def sites (v:Nat):List (Nat×Site):=(Go.Abs.look alv v).getD []
def T:cj:=⟨tys,ae,real,sig,aiw,hint,sites,[(1000000000, .oT [⟨.fn,(197:Nat)⟩,⟨.bool,false⟩]),(1000000001, .oT [⟨.fn,(199:Nat)⟩,⟨.bool,true⟩])],[48,58,44]⟩
noncomputable def fns:List (Nat×Func):=[
 (3,Tryz.f3),(4,Tryz.f4),(5,Tryz.f5),(6,Tryz.f6),(7,Tryz.f7),(8,Tryz.f8),(9,Tryz.f9),(10,Tryz.f10),(11,Tryz.f11),(12,Tryz.f12),(13,Tryz.f13),(14,Tryz.f14),(15,Tryz.f15),(16,Tryz.f16),(17,Tryz.f17),(18,Tryz.f18),(19,Tryz.f19),(20,Tryz.f20),(21,Tryz.f21),(22,Tryz.f22),(23,Tryz.f23),(24,Tryz.f24),(25,Tryz.f25),(26,Tryz.f26),(27,Tryz.f27),(28,Tryz.f28),(29,Tryz.f29),(30,Tryz.f30),(31,Tryz.f31),(32,Tryz.f32),(33,Tryz.f33),(34,Tryz.f34),(35,Tryz.f35),(36,Tryz.f36),(37,Tryz.f37),(38,Tryz.f38),(39,Tryz.f39),(40,Tryz.f40),(41,Tryz.f41),(42,Tryz.f42),(43,Tryz.f43),(44,Tryz.f44),(47,Tryz.f47),(48,Tryz.f48),(49,Tryz.f49),(50,Tryz.f50),(51,Tryz.f51),(52,Tryz.f52),(53,Tryz.f53),(54,Tryz.f54),(55,Tryz.f55),(56,Tryz.f56),(57,Tryz.f57),(58,Tryz.f58),(59,Tryz.f59),(60,Tryz.f60),(61,Tryz.f61),(62,Tryz.f62),(63,Tryz.f63),(64,Tryz.f64),(65,Tryz.f65),(66,Tryz.f66),(67,Tryz.f67),(68,Tryz.f68),(69,Tryz.f69),(71,Tryz.f71),(72,Tryz.f72),(73,Tryz.f73),(74,Tryz.f74),(75,Tryz.f75),(76,Tryz.f76),(77,Tryz.f77),(78,Tryz.f78),(79,Tryz.f79),(80,Tryz.f80),(81,Tryz.f81),(82,Tryz.f82),(83,Tryz.f83),(84,Tryz.f84),(85,Tryz.f85),(86,Tryz.f86),(87,Tryz.f87),(88,Tryz.f88),(89,Tryz.f89),(90,Tryz.f90),(91,Tryz.f91),(92,Tryz.f92),(93,Tryz.f93),(94,Tryz.f94),(95,Tryz.f95),(96,Tryz.f96),(97,Tryz.f97),(98,Tryz.f98),(99,Tryz.f99),(100,Tryz.f100),(101,Tryz.f101),(102,Tryz.f102),(103,Tryz.f103),(104,Tryz.f104),(105,Tryz.f105),(106,Tryz.f106),(107,Tryz.f107),(108,Tryz.f108),(110,Tryz.f110),(111,Tryz.f111),(112,Tryz.f112),(113,Tryz.f113),(114,Tryz.f114),(115,Tryz.f115),(116,Tryz.f116),(117,Tryz.f117),(118,Tryz.f118),(119,Tryz.f119),(120,Tryz.f120),(121,Tryz.f121),(122,Tryz.f122),(123,Tryz.f123),(124,Tryz.f124),(125,Tryz.f125),(126,Tryz.f126),(127,Tryz.f127),(128,Tryz.f128),(129,Tryz.f129),(130,Tryz.f130),(131,Tryz.f131),(132,Tryz.f132),(133,Tryz.f133),(134,Tryz.f134),(135,Tryz.f135),(136,Tryz.f136),(137,Tryz.f137),(138,Tryz.f138),(139,Tryz.f139),(140,Tryz.f140),(141,Tryz.f141),(142,Tryz.f142),(143,Tryz.f143),(144,Tryz.f144),(145,Tryz.f145),(146,Tryz.f146),(147,Tryz.f147),(148,Tryz.f148),(149,Tryz.f149),(150,Tryz.f150),(151,Tryz.f151),(152,Tryz.f152),(153,Tryz.f153),(154,Tryz.f154),(155,Tryz.f155),(156,Tryz.f156),(157,Tryz.f157),(161,Tryz.f161),(162,Tryz.f162),(163,Tryz.f163),(164,Tryz.f164),(165,Tryz.f165),(167,Tryz.f167),(168,Tryz.f168),(169,Tryz.f169),(170,Tryz.f170),(171,Tryz.f171),(173,Tryz.f173),(174,Tryz.f174),(175,Tryz.f175),(176,Tryz.f176),(178,Tryz.f178),(179,Tryz.f179),(196,Tryz.f196),(197,Tryz.f197),(198,Tryz.f198),(199,Tryz.f199),(100045,Tryz.f45),(100145,Tryz.f45),(100046,Tryz.f46),(100146,Tryz.f46),(100018,Tryz.f18),(100084,Tryz.f84),(101038,Tryz.f38),(102038,Tryz.f38),(100040,Tryz.f40),(100070,Tryz.f70),(100071,Tryz.f70),(100109,Tryz.f109),(100110,Tryz.f109)]
def Zj (x:Int×Int×Unit):List (Int×Int×Unit)→List (Int×Int×Unit)
 | []=>[x]
 |y::r=>bif decide (x.1<y.1) then x::y::r else y::Zj x r
def Ai:List (Int×Int×Unit)→List (Int×Int×Unit)
 | []=>[]
 |x::r=>Zj x (Ai r)
def okT:List (Int×Int×Unit)→Bool
 | []=>true
 |x::r=>decide (0≤x.1)&&decide (x.1<1000000000)&&(r.all fun y=> !decide (x.1=y.1))&&okT r
def ag3 (n:Nat)(hp:List (Option (List (Int×Int×Unit)))):Option (Unit×List (Option (List (Int×Int×Unit)))):=match n with
 |0=>some ((),hp)
 |n+1=>(ah hp (n+1)).bind fun l=>bif Nat.ble l.length 1000000&&okT l then some ((),je hp (n+1) (Ai l)) else none
def Ux (c:Int)(i:Nat):List UInt8→Int
 | []=> -1
 |x::r=>bif ((x.toNat:Int)==c) then (i:Int) else Ux c (i+1) r
def B:Mf T:=fun v=>match v with
 |50=>some fun(x:(Nat×Unit)×List (Option (List (Int×Int×Unit))))=>ag3 x.1.1 x.2
 |84=>some fun(x:List (Int×Int×Unit))=>bif aD 16 2 0 x.length then some x else none
 |165=>some fun(x:ByteArray×Int)=>bif decide (0≤x.2)&&decide (x.2<256) then some (Ux x.2 0 x.1.data.toList) else none
 |_=>none
theorem alx:iw Tryz.prog T.rows:=aln (by kernel_rfl)
theorem mixed:Tryz.prog.follows .mixedOrders=true:=by kernel_rfl
theorem aer:Dq Tryz.prog T:=agV (by kernel_rfl)
theorem ajc:afU Tryz.prog T:=alp (by kernel_rfl)
theorem ag4:SA T:=ai9 (l:=sigs) (by kernel_rfl) fun _=>rfl
theorem acN:Mo Tryz.prog T:=⟨mixed,alx,aer,ajc,ag4⟩
theorem aly:acH Tryz.prog T (Go.Abs.look fns):=Ta (
 ⟨⟨Tryz.func3,by kernel_rfl⟩,⟨⟨Tryz.func4,by kernel_rfl⟩,⟨⟨Tryz.func5,by kernel_rfl⟩,⟨⟨Tryz.func6,by kernel_rfl⟩,⟨⟨Tryz.func7,by kernel_rfl⟩,⟨⟨Tryz.func8,by kernel_rfl⟩,⟨⟨Tryz.func9,by kernel_rfl⟩,⟨⟨Tryz.func10,by kernel_rfl⟩,⟨⟨Tryz.func11,by kernel_rfl⟩,⟨⟨Tryz.func12,by kernel_rfl⟩,⟨⟨Tryz.func13,by kernel_rfl⟩,⟨⟨Tryz.func14,by kernel_rfl⟩,⟨⟨Tryz.func15,by kernel_rfl⟩,⟨⟨Tryz.func16,by kernel_rfl⟩,⟨⟨Tryz.func17,by kernel_rfl⟩,⟨⟨Tryz.func18,by kernel_rfl⟩,⟨⟨Tryz.func19,by kernel_rfl⟩,⟨⟨Tryz.func20,by kernel_rfl⟩,⟨⟨Tryz.func21,by kernel_rfl⟩,⟨⟨Tryz.func22,by kernel_rfl⟩,⟨⟨Tryz.func23,by kernel_rfl⟩,⟨⟨Tryz.func24,by kernel_rfl⟩,⟨⟨Tryz.func25,by kernel_rfl⟩,⟨⟨Tryz.func26,by kernel_rfl⟩,⟨⟨Tryz.func27,by kernel_rfl⟩,⟨⟨Tryz.func28,by kernel_rfl⟩,⟨⟨Tryz.func29,by kernel_rfl⟩,⟨⟨Tryz.func30,by kernel_rfl⟩,⟨⟨Tryz.func31,by kernel_rfl⟩,⟨⟨Tryz.func32,by kernel_rfl⟩,⟨⟨Tryz.func33,by kernel_rfl⟩,⟨⟨Tryz.func34,by kernel_rfl⟩,⟨⟨Tryz.func35,by kernel_rfl⟩,⟨⟨Tryz.func36,by kernel_rfl⟩,⟨⟨Tryz.func37,by kernel_rfl⟩,⟨⟨Tryz.func38,by kernel_rfl⟩,⟨⟨Tryz.func39,by kernel_rfl⟩,⟨⟨Tryz.func40,by kernel_rfl⟩,⟨⟨Tryz.func41,by kernel_rfl⟩,⟨⟨Tryz.func42,by kernel_rfl⟩,⟨⟨Tryz.func43,by kernel_rfl⟩,⟨⟨Tryz.func44,by kernel_rfl⟩,⟨⟨Tryz.func47,by kernel_rfl⟩,⟨⟨Tryz.func48,by kernel_rfl⟩,⟨⟨Tryz.func49,by kernel_rfl⟩,⟨⟨Tryz.func50,by kernel_rfl⟩,⟨⟨Tryz.func51,by kernel_rfl⟩,⟨⟨Tryz.func52,by kernel_rfl⟩,⟨⟨Tryz.func53,by kernel_rfl⟩,⟨⟨Tryz.func54,by kernel_rfl⟩,⟨⟨Tryz.func55,by kernel_rfl⟩,⟨⟨Tryz.func56,by kernel_rfl⟩,⟨⟨Tryz.func57,by kernel_rfl⟩,⟨⟨Tryz.func58,by kernel_rfl⟩,⟨⟨Tryz.func59,by kernel_rfl⟩,⟨⟨Tryz.func60,by kernel_rfl⟩,⟨⟨Tryz.func61,by kernel_rfl⟩,⟨⟨Tryz.func62,by kernel_rfl⟩,⟨⟨Tryz.func63,by kernel_rfl⟩,⟨⟨Tryz.func64,by kernel_rfl⟩,⟨⟨Tryz.func65,by kernel_rfl⟩,⟨⟨Tryz.func66,by kernel_rfl⟩,⟨⟨Tryz.func67,by kernel_rfl⟩,⟨⟨Tryz.func68,by kernel_rfl⟩,⟨⟨Tryz.func69,by kernel_rfl⟩,⟨⟨Tryz.func71,by kernel_rfl⟩,⟨⟨Tryz.func72,by kernel_rfl⟩,⟨⟨Tryz.func73,by kernel_rfl⟩,⟨⟨Tryz.func74,by kernel_rfl⟩,⟨⟨Tryz.func75,by kernel_rfl⟩,⟨⟨Tryz.func76,by kernel_rfl⟩,⟨⟨Tryz.func77,by kernel_rfl⟩,⟨⟨Tryz.func78,by kernel_rfl⟩,⟨⟨Tryz.func79,by kernel_rfl⟩,⟨⟨Tryz.func80,by kernel_rfl⟩,⟨⟨Tryz.func81,by kernel_rfl⟩,⟨⟨Tryz.func82,by kernel_rfl⟩,⟨⟨Tryz.func83,by kernel_rfl⟩,⟨⟨Tryz.func84,by kernel_rfl⟩,⟨⟨Tryz.func85,by kernel_rfl⟩,⟨⟨Tryz.func86,by kernel_rfl⟩,⟨⟨Tryz.func87,by kernel_rfl⟩,⟨⟨Tryz.func88,by kernel_rfl⟩,⟨⟨Tryz.func89,by kernel_rfl⟩,⟨⟨Tryz.func90,by kernel_rfl⟩,⟨⟨Tryz.func91,by kernel_rfl⟩,⟨⟨Tryz.func92,by kernel_rfl⟩,⟨⟨Tryz.func93,by kernel_rfl⟩,⟨⟨Tryz.func94,by kernel_rfl⟩,⟨⟨Tryz.func95,by kernel_rfl⟩,⟨⟨Tryz.func96,by kernel_rfl⟩,⟨⟨Tryz.func97,by kernel_rfl⟩,⟨⟨Tryz.func98,by kernel_rfl⟩,⟨⟨Tryz.func99,by kernel_rfl⟩,⟨⟨Tryz.func100,by kernel_rfl⟩,⟨⟨Tryz.func101,by kernel_rfl⟩,⟨⟨Tryz.func102,by kernel_rfl⟩,⟨⟨Tryz.func103,by kernel_rfl⟩,⟨⟨Tryz.func104,by kernel_rfl⟩,⟨⟨Tryz.func105,by kernel_rfl⟩,⟨⟨Tryz.func106,by kernel_rfl⟩,⟨⟨Tryz.func107,by kernel_rfl⟩,⟨⟨Tryz.func108,by kernel_rfl⟩,⟨⟨Tryz.func110,by kernel_rfl⟩,⟨⟨Tryz.func111,by kernel_rfl⟩,⟨⟨Tryz.func112,by kernel_rfl⟩,⟨⟨Tryz.func113,by kernel_rfl⟩,⟨⟨Tryz.func114,by kernel_rfl⟩,⟨⟨Tryz.func115,by kernel_rfl⟩,⟨⟨Tryz.func116,by kernel_rfl⟩,⟨⟨Tryz.func117,by kernel_rfl⟩,⟨⟨Tryz.func118,by kernel_rfl⟩,⟨⟨Tryz.func119,by kernel_rfl⟩,⟨⟨Tryz.func120,by kernel_rfl⟩,⟨⟨Tryz.func121,by kernel_rfl⟩,⟨⟨Tryz.func122,by kernel_rfl⟩,⟨⟨Tryz.func123,by kernel_rfl⟩,⟨⟨Tryz.func124,by kernel_rfl⟩,⟨⟨Tryz.func125,by kernel_rfl⟩,⟨⟨Tryz.func126,by kernel_rfl⟩,⟨⟨Tryz.func127,by kernel_rfl⟩,⟨⟨Tryz.func128,by kernel_rfl⟩,⟨⟨Tryz.func129,by kernel_rfl⟩,⟨⟨Tryz.func130,by kernel_rfl⟩,⟨⟨Tryz.func131,by kernel_rfl⟩,⟨⟨Tryz.func132,by kernel_rfl⟩,⟨⟨Tryz.func133,by kernel_rfl⟩,⟨⟨Tryz.func134,by kernel_rfl⟩,⟨⟨Tryz.func135,by kernel_rfl⟩,⟨⟨Tryz.func136,by kernel_rfl⟩,⟨⟨Tryz.func137,by kernel_rfl⟩,⟨⟨Tryz.func138,by kernel_rfl⟩,⟨⟨Tryz.func139,by kernel_rfl⟩,⟨⟨Tryz.func140,by kernel_rfl⟩,⟨⟨Tryz.func141,by kernel_rfl⟩,⟨⟨Tryz.func142,by kernel_rfl⟩,⟨⟨Tryz.func143,by kernel_rfl⟩,⟨⟨Tryz.func144,by kernel_rfl⟩,⟨⟨Tryz.func145,by kernel_rfl⟩,⟨⟨Tryz.func146,by kernel_rfl⟩,⟨⟨Tryz.func147,by kernel_rfl⟩,⟨⟨Tryz.func148,by kernel_rfl⟩,⟨⟨Tryz.func149,by kernel_rfl⟩,⟨⟨Tryz.func150,by kernel_rfl⟩,⟨⟨Tryz.func151,by kernel_rfl⟩,⟨⟨Tryz.func152,by kernel_rfl⟩,⟨⟨Tryz.func153,by kernel_rfl⟩,⟨⟨Tryz.func154,by kernel_rfl⟩,⟨⟨Tryz.func155,by kernel_rfl⟩,⟨⟨Tryz.func156,by kernel_rfl⟩,⟨⟨Tryz.func157,by kernel_rfl⟩,⟨⟨Tryz.func161,by kernel_rfl⟩,⟨⟨Tryz.func162,by kernel_rfl⟩,⟨⟨Tryz.func163,by kernel_rfl⟩,⟨⟨Tryz.func164,by kernel_rfl⟩,⟨⟨Tryz.func165,by kernel_rfl⟩,⟨⟨Tryz.func167,by kernel_rfl⟩,⟨⟨Tryz.func168,by kernel_rfl⟩,⟨⟨Tryz.func169,by kernel_rfl⟩,⟨⟨Tryz.func170,by kernel_rfl⟩,⟨⟨Tryz.func171,by kernel_rfl⟩,⟨⟨Tryz.func173,by kernel_rfl⟩,⟨⟨Tryz.func174,by kernel_rfl⟩,⟨⟨Tryz.func175,by kernel_rfl⟩,⟨⟨Tryz.func176,by kernel_rfl⟩,⟨⟨Tryz.func178,by kernel_rfl⟩,⟨⟨Tryz.func179,by kernel_rfl⟩,⟨⟨Tryz.func196,by kernel_rfl⟩,⟨⟨Tryz.func197,by kernel_rfl⟩,⟨⟨Tryz.func198,by kernel_rfl⟩,⟨⟨Tryz.func199,by kernel_rfl⟩,⟨⟨Tryz.func45,by kernel_rfl⟩,⟨⟨Tryz.func45,by kernel_rfl⟩,⟨⟨Tryz.func46,by kernel_rfl⟩,⟨⟨Tryz.func46,by kernel_rfl⟩,⟨⟨Tryz.func18,by kernel_rfl⟩,⟨⟨Tryz.func84,by kernel_rfl⟩,⟨⟨Tryz.func38,by kernel_rfl⟩,⟨⟨Tryz.func38,by kernel_rfl⟩,⟨⟨Tryz.func40,by kernel_rfl⟩,⟨⟨Tryz.func70,by kernel_rfl⟩,⟨⟨Tryz.func70,by kernel_rfl⟩,⟨⟨Tryz.func109,by kernel_rfl⟩,⟨⟨Tryz.func109,by kernel_rfl⟩,trivial⟩⟩⟩⟩⟩⟩⟩⟩⟩⟩⟩⟩⟩⟩⟩⟩⟩⟩⟩⟩⟩⟩⟩⟩⟩⟩⟩⟩⟩⟩⟩⟩⟩⟩⟩⟩⟩⟩⟩⟩⟩⟩⟩⟩⟩⟩⟩⟩⟩⟩⟩⟩⟩⟩⟩⟩⟩⟩⟩⟩⟩⟩⟩⟩⟩⟩⟩⟩⟩⟩⟩⟩⟩⟩⟩⟩⟩⟩⟩⟩⟩⟩⟩⟩⟩⟩⟩⟩⟩⟩⟩⟩⟩⟩⟩⟩⟩⟩⟩⟩⟩⟩⟩⟩⟩⟩⟩⟩⟩⟩⟩⟩⟩⟩⟩⟩⟩⟩⟩⟩⟩⟩⟩⟩⟩⟩⟩⟩⟩⟩⟩⟩⟩⟩⟩⟩⟩⟩⟩⟩⟩⟩⟩⟩⟩⟩⟩⟩⟩⟩⟩⟩⟩⟩⟩⟩⟩⟩⟩⟩⟩⟩⟩⟩⟩⟩⟩⟩⟩⟩⟩⟩⟩⟩⟩⟩⟩⟩⟩⟩⟩⟩⟩⟩)
end Go.Proofs.YtofjebmoebhiiaaGreatDoor.Ev
namespace Go.Proofs.YtofjebmoebhiiaaGreatDoor.Ev
open Go.Abs
noncomputable section
abbrev Gb:=Int×Int×Unit
abbrev b9:=List Gb
abbrev zqC:=Int×ByteArray×b9×Unit
abbrev qX:=List zqC
abbrev zqN:=Int×ByteArray×Nat×Unit
abbrev jY:=Int×qX×Unit
noncomputable abbrev lf:Nat→Option Func:=Go.Abs.look fns
abbrev yT:Ty:= .pair (.int .i64) (.pair (.int .i64) .unit)
abbrev yC:Ty:= .pair (.int .i64) (.pair .str (.pair (.slice (.st yT)) .unit))
abbrev yR:Ty:= .pair (.int .i64) (.pair .str (.pair (.ref 2) .unit))
abbrev yH:Ty:= .st (.pair (.int .i64) (.pair (.slice (.st yC)) .unit))
abbrev yG:Ty:= .st (.pair (.int .i64) (.pair (.ref 0) .unit))
abbrev H0:=List (Option (List zqC))
abbrev H1:=List (Option (List zqN))
abbrev H2:=List (Option (List Gb))
abbrev H3:=List (Option (List Gb))
abbrev H4:=List (Option (List Int))
abbrev H5:=List (Option (List ((jY)×Nat×Nat×Nat×Int×Int×Unit)))
abbrev H6:=List (Option (List (Option (List Int))))
abbrev H7:=List (Option (List Bool))
abbrev H8:=List (Option (List (Nat×ByteArray×Unit)))
abbrev H9:=List (Option (List jY))
abbrev hs (a0:H0)(a1:H1)(a2:H2)(a3:H3)(a4:H4)(a5:H5)(a6:H6)(a7:H7)(a8:H8)(a9:H9):List aV:=[⟨42, .st yC,0,true,a0⟩,⟨42, .st yR,0,true,a1⟩,⟨44, .st yT,0,true,a2⟩,⟨58, .st yT,0,true,a3⟩,⟨3, .int .i64,0,true,a4⟩,⟨95, .st (.pair (.st (.pair (.int .i64) (.pair (.slice (.st yC)) .unit))) (.pair (.ref 6) (.pair (.ref 4) (.pair (.ref 7) yT)))),1,true,a5⟩,⟨26, .pW (.int .i64),0,true,a6⟩,⟨4, .bool,0,true,a7⟩,⟨101, .st (.pair (.ref 4) (.pair .str .unit)),0,true,a8⟩,⟨24,yH,0,true,a9⟩]
abbrev h0:List aV:=hs [] [] [] [] [] [] [] [] [] []
abbrev gl:List (Nat×AV):=[(1000000000, .oT [⟨.fn,(197:Nat)⟩,⟨.bool,false⟩]),(1000000001, .oT [⟨.fn,(199:Nat)⟩,⟨.bool,true⟩])]
abbrev aQ (x:Int):AV:= .rv (.cv ⟨.int .i64,x⟩)
theorem e1 (v:Nat)(x:Bh T v):cu T B lf v x=alr T B lf v x:=GI T B lf v x
theorem l1 (v i:Nat)(σ:AS):LL T B lf v i σ=LL1 T B lf v i σ:=ans T B lf v i σ
abbrev ms (n:Nat)(a:List (Nat×AV))(b:List (Nat×BX))(h:List aV)(s:Nat):AS:=⟨⟨n,a,gl⟩,[],b,h,⟨.unit,()⟩,[],T.sites s⟩
theorem x1 {t0:Type}{r:Type}{f g:t0→r}(h:∀a0,f a0=g a0):g=f:=(funext fun a0=>h a0).symm
theorem x2 {t0:Type}{t1:Type}{r:Type}{f g:t0→t1→r}(h:∀a0 a1,f a0 a1=g a0 a1):g=f:=(funext fun a0=>funext fun a1=>h a0 a1).symm
theorem x3 {t0:Type}{t1:Type}{t2:Type}{r:Type}{f g:t0→t1→t2→r}(h:∀a0 a1 a2,f a0 a1 a2=g a0 a1 a2):g=f:=(funext fun a0=>funext fun a1=>funext fun a2=>h a0 a1 a2).symm
theorem x4 {t0:Type}{t1:Type}{t2:Type}{t3:Type}{r:Type}{f g:t0→t1→t2→t3→r}(h:∀a0 a1 a2 a3,f a0 a1 a2 a3=g a0 a1 a2 a3):g=f:=(funext fun a0=>funext fun a1=>funext fun a2=>funext fun a3=>h a0 a1 a2 a3).symm
theorem x5 {t0:Type}{t1:Type}{t2:Type}{t3:Type}{t4:Type}{r:Type}{f g:t0→t1→t2→t3→t4→r}(h:∀a0 a1 a2 a3 a4,f a0 a1 a2 a3 a4=g a0 a1 a2 a3 a4):g=f:=(funext fun a0=>funext fun a1=>funext fun a2=>funext fun a3=>funext fun a4=>h a0 a1 a2 a3 a4).symm
theorem x6 {t0:Type}{t1:Type}{t2:Type}{t3:Type}{t4:Type}{t5:Type}{r:Type}{f g:t0→t1→t2→t3→t4→t5→r}(h:∀a0 a1 a2 a3 a4 a5,f a0 a1 a2 a3 a4 a5=g a0 a1 a2 a3 a4 a5):g=f:=(funext fun a0=>funext fun a1=>funext fun a2=>funext fun a3=>funext fun a4=>funext fun a5=>h a0 a1 a2 a3 a4 a5).symm
theorem x7 {t0:Type}{t1:Type}{t2:Type}{t3:Type}{t4:Type}{t5:Type}{t6:Type}{r:Type}{f g:t0→t1→t2→t3→t4→t5→t6→r}(h:∀a0 a1 a2 a3 a4 a5 a6,f a0 a1 a2 a3 a4 a5 a6=g a0 a1 a2 a3 a4 a5 a6):g=f:=(funext fun a0=>funext fun a1=>funext fun a2=>funext fun a3=>funext fun a4=>funext fun a5=>funext fun a6=>h a0 a1 a2 a3 a4 a5 a6).symm
theorem x8 {t0:Type}{t1:Type}{t2:Type}{t3:Type}{t4:Type}{t5:Type}{t6:Type}{t7:Type}{r:Type}{f g:t0→t1→t2→t3→t4→t5→t6→t7→r}(h:∀a0 a1 a2 a3 a4 a5 a6 a7,f a0 a1 a2 a3 a4 a5 a6 a7=g a0 a1 a2 a3 a4 a5 a6 a7):g=f:=(funext fun a0=>funext fun a1=>funext fun a2=>funext fun a3=>funext fun a4=>funext fun a5=>funext fun a6=>funext fun a7=>h a0 a1 a2 a3 a4 a5 a6 a7).symm
theorem x9 {t0:Type}{t1:Type}{t2:Type}{t3:Type}{t4:Type}{t5:Type}{t6:Type}{t7:Type}{t8:Type}{r:Type}{f g:t0→t1→t2→t3→t4→t5→t6→t7→t8→r}(h:∀a0 a1 a2 a3 a4 a5 a6 a7 a8,f a0 a1 a2 a3 a4 a5 a6 a7 a8=g a0 a1 a2 a3 a4 a5 a6 a7 a8):g=f:=(funext fun a0=>funext fun a1=>funext fun a2=>funext fun a3=>funext fun a4=>funext fun a5=>funext fun a6=>funext fun a7=>funext fun a8=>h a0 a1 a2 a3 a4 a5 a6 a7 a8).symm
theorem x10 {t0:Type}{t1:Type}{t2:Type}{t3:Type}{t4:Type}{t5:Type}{t6:Type}{t7:Type}{t8:Type}{t9:Type}{r:Type}{f g:t0→t1→t2→t3→t4→t5→t6→t7→t8→t9→r}(h:∀a0 a1 a2 a3 a4 a5 a6 a7 a8 a9,f a0 a1 a2 a3 a4 a5 a6 a7 a8 a9=g a0 a1 a2 a3 a4 a5 a6 a7 a8 a9):g=f:=(funext fun a0=>funext fun a1=>funext fun a2=>funext fun a3=>funext fun a4=>funext fun a5=>funext fun a6=>funext fun a7=>funext fun a8=>funext fun a9=>h a0 a1 a2 a3 a4 a5 a6 a7 a8 a9).symm
theorem x11 {t0:Type}{t1:Type}{t2:Type}{t3:Type}{t4:Type}{t5:Type}{t6:Type}{t7:Type}{t8:Type}{t9:Type}{t10:Type}{r:Type}{f g:t0→t1→t2→t3→t4→t5→t6→t7→t8→t9→t10→r}(h:∀a0 a1 a2 a3 a4 a5 a6 a7 a8 a9 Ba,f a0 a1 a2 a3 a4 a5 a6 a7 a8 a9 Ba=g a0 a1 a2 a3 a4 a5 a6 a7 a8 a9 Ba):g=f:=(funext fun a0=>funext fun a1=>funext fun a2=>funext fun a3=>funext fun a4=>funext fun a5=>funext fun a6=>funext fun a7=>funext fun a8=>funext fun a9=>funext fun Ba=>h a0 a1 a2 a3 a4 a5 a6 a7 a8 a9 Ba).symm
theorem x12 {t0:Type}{t1:Type}{t2:Type}{t3:Type}{t4:Type}{t5:Type}{t6:Type}{t7:Type}{t8:Type}{t9:Type}{t10:Type}{t11:Type}{r:Type}{f g:t0→t1→t2→t3→t4→t5→t6→t7→t8→t9→t10→t11→r}(h:∀a0 a1 a2 a3 a4 a5 a6 a7 a8 a9 Ba Dz,f a0 a1 a2 a3 a4 a5 a6 a7 a8 a9 Ba Dz=g a0 a1 a2 a3 a4 a5 a6 a7 a8 a9 Ba Dz):g=f:=(funext fun a0=>funext fun a1=>funext fun a2=>funext fun a3=>funext fun a4=>funext fun a5=>funext fun a6=>funext fun a7=>funext fun a8=>funext fun a9=>funext fun Ba=>funext fun Dz=>h a0 a1 a2 a3 a4 a5 a6 a7 a8 a9 Ba Dz).symm
theorem x13 {t0:Type}{t1:Type}{t2:Type}{t3:Type}{t4:Type}{t5:Type}{t6:Type}{t7:Type}{t8:Type}{t9:Type}{t10:Type}{t11:Type}{t12:Type}{r:Type}{f g:t0→t1→t2→t3→t4→t5→t6→t7→t8→t9→t10→t11→t12→r}(h:∀a0 a1 a2 a3 a4 a5 a6 a7 a8 a9 Ba Dz a12,f a0 a1 a2 a3 a4 a5 a6 a7 a8 a9 Ba Dz a12=g a0 a1 a2 a3 a4 a5 a6 a7 a8 a9 Ba Dz a12):g=f:=(funext fun a0=>funext fun a1=>funext fun a2=>funext fun a3=>funext fun a4=>funext fun a5=>funext fun a6=>funext fun a7=>funext fun a8=>funext fun a9=>funext fun Ba=>funext fun Dz=>funext fun a12=>h a0 a1 a2 a3 a4 a5 a6 a7 a8 a9 Ba Dz a12).symm
theorem x14 {t0:Type}{t1:Type}{t2:Type}{t3:Type}{t4:Type}{t5:Type}{t6:Type}{t7:Type}{t8:Type}{t9:Type}{t10:Type}{t11:Type}{t12:Type}{t13:Type}{r:Type}{f g:t0→t1→t2→t3→t4→t5→t6→t7→t8→t9→t10→t11→t12→t13→r}(h:∀a0 a1 a2 a3 a4 a5 a6 a7 a8 a9 Ba Dz a12 Km,f a0 a1 a2 a3 a4 a5 a6 a7 a8 a9 Ba Dz a12 Km=g a0 a1 a2 a3 a4 a5 a6 a7 a8 a9 Ba Dz a12 Km):g=f:=(funext fun a0=>funext fun a1=>funext fun a2=>funext fun a3=>funext fun a4=>funext fun a5=>funext fun a6=>funext fun a7=>funext fun a8=>funext fun a9=>funext fun Ba=>funext fun Dz=>funext fun a12=>funext fun Km=>h a0 a1 a2 a3 a4 a5 a6 a7 a8 a9 Ba Dz a12 Km).symm
theorem x15 {t0:Type}{t1:Type}{t2:Type}{t3:Type}{t4:Type}{t5:Type}{t6:Type}{t7:Type}{t8:Type}{t9:Type}{t10:Type}{t11:Type}{t12:Type}{t13:Type}{t14:Type}{r:Type}{f g:t0→t1→t2→t3→t4→t5→t6→t7→t8→t9→t10→t11→t12→t13→t14→r}(h:∀a0 a1 a2 a3 a4 a5 a6 a7 a8 a9 Ba Dz a12 Km NY,f a0 a1 a2 a3 a4 a5 a6 a7 a8 a9 Ba Dz a12 Km NY=g a0 a1 a2 a3 a4 a5 a6 a7 a8 a9 Ba Dz a12 Km NY):g=f:=(funext fun a0=>funext fun a1=>funext fun a2=>funext fun a3=>funext fun a4=>funext fun a5=>funext fun a6=>funext fun a7=>funext fun a8=>funext fun a9=>funext fun Ba=>funext fun Dz=>funext fun a12=>funext fun Km=>funext fun NY=>h a0 a1 a2 a3 a4 a5 a6 a7 a8 a9 Ba Dz a12 Km NY).symm
theorem x16 {t0:Type}{t1:Type}{t2:Type}{t3:Type}{t4:Type}{t5:Type}{t6:Type}{t7:Type}{t8:Type}{t9:Type}{t10:Type}{t11:Type}{t12:Type}{t13:Type}{t14:Type}{t15:Type}{r:Type}{f g:t0→t1→t2→t3→t4→t5→t6→t7→t8→t9→t10→t11→t12→t13→t14→t15→r}(h:∀a0 a1 a2 a3 a4 a5 a6 a7 a8 a9 Ba Dz a12 Km NY RH,f a0 a1 a2 a3 a4 a5 a6 a7 a8 a9 Ba Dz a12 Km NY RH=g a0 a1 a2 a3 a4 a5 a6 a7 a8 a9 Ba Dz a12 Km NY RH):g=f:=(funext fun a0=>funext fun a1=>funext fun a2=>funext fun a3=>funext fun a4=>funext fun a5=>funext fun a6=>funext fun a7=>funext fun a8=>funext fun a9=>funext fun Ba=>funext fun Dz=>funext fun a12=>funext fun Km=>funext fun NY=>funext fun RH=>h a0 a1 a2 a3 a4 a5 a6 a7 a8 a9 Ba Dz a12 Km NY RH).symm
theorem x17 {t0:Type}{t1:Type}{t2:Type}{t3:Type}{t4:Type}{t5:Type}{t6:Type}{t7:Type}{t8:Type}{t9:Type}{t10:Type}{t11:Type}{t12:Type}{t13:Type}{t14:Type}{t15:Type}{t16:Type}{r:Type}{f g:t0→t1→t2→t3→t4→t5→t6→t7→t8→t9→t10→t11→t12→t13→t14→t15→t16→r}(h:∀a0 a1 a2 a3 a4 a5 a6 a7 a8 a9 Ba Dz a12 Km NY RH W6,f a0 a1 a2 a3 a4 a5 a6 a7 a8 a9 Ba Dz a12 Km NY RH W6=g a0 a1 a2 a3 a4 a5 a6 a7 a8 a9 Ba Dz a12 Km NY RH W6):g=f:=(funext fun a0=>funext fun a1=>funext fun a2=>funext fun a3=>funext fun a4=>funext fun a5=>funext fun a6=>funext fun a7=>funext fun a8=>funext fun a9=>funext fun Ba=>funext fun Dz=>funext fun a12=>funext fun Km=>funext fun NY=>funext fun RH=>funext fun W6=>h a0 a1 a2 a3 a4 a5 a6 a7 a8 a9 Ba Dz a12 Km NY RH W6).symm
theorem x18 {t0:Type}{t1:Type}{t2:Type}{t3:Type}{t4:Type}{t5:Type}{t6:Type}{t7:Type}{t8:Type}{t9:Type}{t10:Type}{t11:Type}{t12:Type}{t13:Type}{t14:Type}{t15:Type}{t16:Type}{t17:Type}{r:Type}{f g:t0→t1→t2→t3→t4→t5→t6→t7→t8→t9→t10→t11→t12→t13→t14→t15→t16→t17→r}(h:∀a0 a1 a2 a3 a4 a5 a6 a7 a8 a9 Ba Dz a12 Km NY RH W6 a17,f a0 a1 a2 a3 a4 a5 a6 a7 a8 a9 Ba Dz a12 Km NY RH W6 a17=g a0 a1 a2 a3 a4 a5 a6 a7 a8 a9 Ba Dz a12 Km NY RH W6 a17):g=f:=(funext fun a0=>funext fun a1=>funext fun a2=>funext fun a3=>funext fun a4=>funext fun a5=>funext fun a6=>funext fun a7=>funext fun a8=>funext fun a9=>funext fun Ba=>funext fun Dz=>funext fun a12=>funext fun Km=>funext fun NY=>funext fun RH=>funext fun W6=>funext fun a17=>h a0 a1 a2 a3 a4 a5 a6 a7 a8 a9 Ba Dz a12 Km NY RH W6 a17).symm
theorem x19 {t0:Type}{t1:Type}{t2:Type}{t3:Type}{t4:Type}{t5:Type}{t6:Type}{t7:Type}{t8:Type}{t9:Type}{t10:Type}{t11:Type}{t12:Type}{t13:Type}{t14:Type}{t15:Type}{t16:Type}{t17:Type}{t18:Type}{r:Type}{f g:t0→t1→t2→t3→t4→t5→t6→t7→t8→t9→t10→t11→t12→t13→t14→t15→t16→t17→t18→r}(h:∀a0 a1 a2 a3 a4 a5 a6 a7 a8 a9 Ba Dz a12 Km NY RH W6 a17 a18,f a0 a1 a2 a3 a4 a5 a6 a7 a8 a9 Ba Dz a12 Km NY RH W6 a17 a18=g a0 a1 a2 a3 a4 a5 a6 a7 a8 a9 Ba Dz a12 Km NY RH W6 a17 a18):g=f:=(funext fun a0=>funext fun a1=>funext fun a2=>funext fun a3=>funext fun a4=>funext fun a5=>funext fun a6=>funext fun a7=>funext fun a8=>funext fun a9=>funext fun Ba=>funext fun Dz=>funext fun a12=>funext fun Km=>funext fun NY=>funext fun RH=>funext fun W6=>funext fun a17=>funext fun a18=>h a0 a1 a2 a3 a4 a5 a6 a7 a8 a9 Ba Dz a12 Km NY RH W6 a17 a18).symm
theorem x20 {t0:Type}{t1:Type}{t2:Type}{t3:Type}{t4:Type}{t5:Type}{t6:Type}{t7:Type}{t8:Type}{t9:Type}{t10:Type}{t11:Type}{t12:Type}{t13:Type}{t14:Type}{t15:Type}{t16:Type}{t17:Type}{t18:Type}{t19:Type}{r:Type}{f g:t0→t1→t2→t3→t4→t5→t6→t7→t8→t9→t10→t11→t12→t13→t14→t15→t16→t17→t18→t19→r}(h:∀a0 a1 a2 a3 a4 a5 a6 a7 a8 a9 Ba Dz a12 Km NY RH W6 a17 a18 a19,f a0 a1 a2 a3 a4 a5 a6 a7 a8 a9 Ba Dz a12 Km NY RH W6 a17 a18 a19=g a0 a1 a2 a3 a4 a5 a6 a7 a8 a9 Ba Dz a12 Km NY RH W6 a17 a18 a19):g=f:=(funext fun a0=>funext fun a1=>funext fun a2=>funext fun a3=>funext fun a4=>funext fun a5=>funext fun a6=>funext fun a7=>funext fun a8=>funext fun a9=>funext fun Ba=>funext fun Dz=>funext fun a12=>funext fun Km=>funext fun NY=>funext fun RH=>funext fun W6=>funext fun a17=>funext fun a18=>funext fun a19=>h a0 a1 a2 a3 a4 a5 a6 a7 a8 a9 Ba Dz a12 Km NY RH W6 a17 a18 a19).symm
abbrev af {α:Type}(_:α):Type:=α
def ia {α:Type}(f:α)(b:Nat→α)(n:Nat):α:=Nat.rec f (fun k _=>b k) n
def wU {α:Type}(f:α)(b:Nat→α→α)(n:Nat):α:=Nat.rec f (fun k x=>b k x) n
theorem bj {α:Type}{f:α}{b:Nat→α}(h:∀w,b w=f):∀w,ia f b w=f
 |0=>rfl
 |w+1=>h w
theorem mkLe {α:Type}{f:α}{b:Nat→α→α}(h:∀w,b w f=f):∀w,wU f b w=f
 |0=>rfl
 |w+1=>by
  show b w (wU f b w)=f
  rw[mkLe h w]
  exact h w
def jZ (raw:(List (List Int))×(List Int)×Int×(List Int)×Unit):Option (Bool):=cu T B lf 8 raw
def jJ:Option (Bool):=cu T B lf 13 ()
def qY (x:(List (List Int))×(List Int)×Int×(List Int)×Unit)(most:Int):Option jY:=cu T B lf 14 (x,most)
def eB (n:Int)(x:List (List Int))(x2:List Int)(x3:Int)(x4:List Int)(t:Int)(t2:Nat)(c:Int)(c2:qX):Option jY:=
 LL T B lf 14 0 (ms 134 [(9,aQ n),(7, .box 7 0),(4, .box 4 0),(2, .box 2 0)] [(2, .cells [⟨.slice (.slice (.int .i64)),x⟩,⟨.slice (.int .i64),x2⟩,⟨.int .i64,x3⟩,⟨.slice (.int .i64),x4⟩]),(4, .cells [⟨.int .i64,t⟩,⟨.ref 0,t2⟩]),(7, .cells [⟨.int .i64,c⟩,⟨.slice (.st yC),c2⟩])] h0 14)
def fX (n:Int)(j:Int)(k:Int)(i:Int)(x:List (List Int))(x2:List Int)(x3:Int)(x4:List Int)(t:Int)(t2:Nat)(c:Int)(c2:qX):Option jY:=
 LL T B lf 14 1 (ms 134 [(12,aQ i),(11,aQ k),(10,aQ j),(9,aQ n),(7, .box 7 0),(4, .box 4 0),(2, .box 2 0)] [(2, .cells [⟨.slice (.slice (.int .i64)),x⟩,⟨.slice (.int .i64),x2⟩,⟨.int .i64,x3⟩,⟨.slice (.int .i64),x4⟩]),(4, .cells [⟨.int .i64,t⟩,⟨.ref 0,t2⟩]),(7, .cells [⟨.int .i64,c⟩,⟨.slice (.st yC),c2⟩])] h0 14)
def p6 (c:jY)(kX:H0):Option ((Int×Nat×Unit)×H0):=cu T B lf 15 (c,kX)
def ft (i:Int)(c:Int)(c2:qX)(t:Int)(t2:Nat)(out:Int)(ai:Nat)(kX:H0):Option ((Int×Nat×Unit)×H0):=
 LL T B lf 15 0 (ms 33 [(4,aQ i),(3, .box 3 0),(2, .box 2 0),(1, .box 1 0)] [(1, .cells [⟨.int .i64,c⟩,⟨.slice (.st yC),c2⟩]),(2, .cells [⟨.int .i64,t⟩,⟨.ref 0,t2⟩]),(3, .cells [⟨.int .i64,out⟩,⟨.ref 0,ai⟩])] (hs kX [] [] [] [] [] [] [] [] []) 15)
def qZ (c:jY):Option (Int):=cu T B lf 16 c
def fY (j:Int)(c:Int)(c2:qX):Option (Int):=
 LL T B lf 16 0 (ms 26 [(3,aQ j),(1, .box 1 0)] [(1, .cells [⟨.int .i64,c⟩,⟨.slice (.st yC),c2⟩])] h0 16)
def lN (c:jY):Option (jY×Int):=cu T B lf 18 c
def jx (last:Int)(t:Int)(t2:Int)(c:Int)(c2:qX)(t3:Int)(t4:Nat)(out:Int)(ai:Nat)(hp1:H1):Option (jY×Int):=
 LL T B lf 18 0 (ms 107 [(35,aQ t2),(34,aQ t),(6, .box 6 0),(5,aQ last),(2, .box 2 0),(1, .box 1 0)] [(1, .cells [⟨.int .i64,c⟩,⟨.slice (.st yC),c2⟩]),(2, .cells [⟨.int .i64,t3⟩,⟨.ref 0,t4⟩]),(6, .cells [⟨.int .i64,out⟩,⟨.ref 1,ai⟩])] (hs [] hp1 [] [] [] [] [] [] [] []) 18)
def ib (last:Int)(k:Int)(c:Int)(c2:qX)(t:Int)(t2:Nat)(out:Int)(ai:Nat)(hp1:H1):Option (jY×Int):=
 LL T B lf 18 1 (ms 107 [(11,aQ k),(6, .box 6 0),(5,aQ last),(2, .box 2 0),(1, .box 1 0)] [(1, .cells [⟨.int .i64,c⟩,⟨.slice (.st yC),c2⟩]),(2, .cells [⟨.int .i64,t⟩,⟨.ref 0,t2⟩]),(6, .cells [⟨.int .i64,out⟩,⟨.ref 1,ai⟩])] (hs [] hp1 [] [] [] [] [] [] [] []) 18)
def sF (last:Int)(k:Int)(t:b9)(t2:Int)(t3:Int)(c:Int)(c2:qX)(t4:Int)(t5:Nat)(out:Int)(ai:Nat)(hp1:H1):Option (jY×Int):=
 LL T B lf 18 2 (ms 107 [(80,aQ t3),(79,aQ t2),(78, .rv (.cv ⟨.slice (.st yT),t⟩)),(11,aQ k),(6, .box 6 0),(5,aQ last),(2, .box 2 0),(1, .box 1 0)] [(1, .cells [⟨.int .i64,c⟩,⟨.slice (.st yC),c2⟩]),(2, .cells [⟨.int .i64,t4⟩,⟨.ref 0,t5⟩]),(6, .cells [⟨.int .i64,out⟩,⟨.ref 1,ai⟩])] (hs [] hp1 [] [] [] [] [] [] [] []) 18)
def eY (last:Int)(k:Int)(t:b9)(t2:Int)(t3:Int)(c:Int)(c2:qX)(t4:Int)(t5:Nat)(out:Int)(ai:Nat)(hp1:H1)(hp2:H2):Option (jY×Int):=
 LL T B lf 18 2 (ms 107 [(80,aQ t3),(79,aQ t2),(78, .rv (.cv ⟨.slice (.st yT),t⟩)),(11,aQ k),(6, .box 6 0),(5,aQ last),(2, .box 2 0),(1, .box 1 0)] [(1, .cells [⟨.int .i64,c⟩,⟨.slice (.st yC),c2⟩]),(2, .cells [⟨.int .i64,t4⟩,⟨.ref 0,t5⟩]),(6, .cells [⟨.int .i64,out⟩,⟨.ref 1,ai⟩])] (hs [] hp1 hp2 [] [] [] [] [] [] []) 18)
def iz (last:Int)(k:Int)(c:Int)(c2:qX)(t:Int)(t2:Nat)(out:Int)(ai:Nat)(hp1:H1)(hp2:H2):Option (jY×Int):=
 LL T B lf 18 1 (ms 107 [(11,aQ k),(6, .box 6 0),(5,aQ last),(2, .box 2 0),(1, .box 1 0)] [(1, .cells [⟨.int .i64,c⟩,⟨.slice (.st yC),c2⟩]),(2, .cells [⟨.int .i64,t⟩,⟨.ref 0,t2⟩]),(6, .cells [⟨.int .i64,out⟩,⟨.ref 1,ai⟩])] (hs [] hp1 hp2 [] [] [] [] [] [] []) 18)
def tf (a:jY)(b:jY):Option (Bool):=cu T B lf 19 (a,b)
def gQ (i:Int)(a:Int)(a2:qX)(b:Int)(b2:qX):Option (Bool):=
 LL T B lf 19 0 (ms 71 [(5,aQ i),(3, .box 3 0),(2, .box 2 0)] [(2, .cells [⟨.int .i64,a⟩,⟨.slice (.st yC),a2⟩]),(3, .cells [⟨.int .i64,b⟩,⟨.slice (.st yC),b2⟩])] h0 19)
def qp (c:jY):Option (b9×Gb×Int):=cu T B lf 20 c
def iA (a:b9)(b:b9):Option (Bool):=cu T B lf 23 (a,b)
def cE (a:b9)(b:b9)(i:Int):Option (Bool):=
 LL T B lf 23 0 (ms 26 [(5,aQ i),(1, .rv (.cv ⟨.slice (.st yT),b⟩)),(0, .rv (.cv ⟨.slice (.st yT),a⟩))] [] h0 23)
def yX (c:jY):Option (b9×Gb×Int):=cu T B lf 24 c
def mB (c:jY):Option (b9×Gb×Int):=cu T B lf 26 c
def eC (l:Nat)(last:Int)(t:Nat)(t2:Int)(t3:Int)(t4:Int)(t5:Int)(w:Int)(w2:Int)(fh:H2):Option (b9×Gb×Int):=
 LL T B lf 26 0 (ms 66 [(33,aQ t3),(32,aQ t2),(31, .rv (.cv ⟨.ref 3,t⟩)),(9,aQ last),(8, .box 8 0),(7, .rv (.cv ⟨.ref 3,l⟩)),(3, .box 3 0)] [(3, .cells [⟨.int .i64,t4⟩,⟨.int .i64,t5⟩]),(8, .cells [⟨.int .i64,w⟩,⟨.int .i64,w2⟩])] (hs [] [] [] fh [] [] [] [] [] []) 26)
def j0:Option jY:=cu T B lf 28 ()
def ck (a:b9)(b:b9):Option (Bool):=cu T B lf 30 (a,b)
def bt (a:b9)(b:b9)(i:Int):Option (Bool):=
 LL T B lf 30 0 (ms 26 [(5,aQ i),(1, .rv (.cv ⟨.slice (.st yT),b⟩)),(0, .rv (.cv ⟨.slice (.st yT),a⟩))] [] h0 30)
def vk (l:List Int):Option b9:=cu T B lf 31 l
def iU (l:List Int)(i:Int)(out:b9):Option b9:=
 LL T B lf 31 0 ⟨⟨26,[(4,aQ i),(3, .rv (.own 3)),(0, .rv (.cv ⟨.slice (.int .i64),l⟩))],gl⟩,[(3,⟨44, .st yT,out⟩)],[],h0,⟨.unit,()⟩,[],T.sites 31⟩
def q6 (l:List (List Int))(values:List Int)(most:Int)(QE:Int)(n:Int):Option (List ((List Int)×ByteArray×Unit)):=cu T B lf 32 (l,values,most,QE,n)
def fZ (values:List Int)(c:List (List Int))(i:Int)(Uf:List ByteArray):Option (List ((List Int)×ByteArray×Unit)):=
 LL T B lf 32 0 ⟨⟨57,[(13,aQ i),(12, .rv (.own 12)),(11, .rv (.cv ⟨.slice (.slice (.int .i64)),c⟩)),(1, .rv (.cv ⟨.slice (.int .i64),values⟩))],gl⟩,[(12,⟨39, .str,Uf⟩)],[],h0,⟨.unit,()⟩,[],T.sites 32⟩
def jy (f:List ((List Int)×ByteArray×Unit))(p:Int):Option (jY×Int):=cu T B lf 33 (f,p)
def jK (f:List ((List Int)×ByteArray×Unit))(p:Int)(j:Int)(t:Int)(t2:Nat)(out:Int)(ai:Nat):Option (jY×Int):=
 LL T B lf 33 0 (ms 93 [(8,aQ j),(7, .box 7 0),(4, .box 4 0),(1,aQ p),(0, .rv (.cv ⟨.slice (.st (.pair (.slice (.int .i64)) (.pair (.str) (.unit)))),f⟩))] [(4, .cells [⟨.int .i64,t⟩,⟨.ref 0,t2⟩]),(7, .cells [⟨.int .i64,out⟩,⟨.ref 0,ai⟩])] h0 33)
def gR (f:List ((List Int)×ByteArray×Unit))(p:Int)(j:Int)(v:Nat)(b6:List (List Int))(k:Int)(t:Int)(t2:Nat)(out:Int)(ai:Nat)(aC:H4):Option (jY×Int):=
 LL T B lf 33 1 (ms 93 [(11,aQ k),(10, .rv (.cv ⟨.slice (.slice (.int .i64)),b6⟩)),(9, .rv (.cv ⟨.ref 4,v⟩)),(8,aQ j),(7, .box 7 0),(4, .box 4 0),(1,aQ p),(0, .rv (.cv ⟨.slice (.st (.pair (.slice (.int .i64)) (.pair (.str) (.unit)))),f⟩))] [(4, .cells [⟨.int .i64,t⟩,⟨.ref 0,t2⟩]),(7, .cells [⟨.int .i64,out⟩,⟨.ref 0,ai⟩])] (hs [] [] [] [] aC [] [] [] [] []) 33)
def gS (f:List ((List Int)×ByteArray×Unit))(p:Int)(j:Int)(v:Nat)(b6:List (List Int))(k:Int)(i:Int)(t:Int)(t2:Nat)(out:Int)(ai:Nat)(aC:H4):Option (jY×Int):=
 LL T B lf 33 2 (ms 93 [(12,aQ i),(11,aQ k),(10, .rv (.cv ⟨.slice (.slice (.int .i64)),b6⟩)),(9, .rv (.cv ⟨.ref 4,v⟩)),(8,aQ j),(7, .box 7 0),(4, .box 4 0),(1,aQ p),(0, .rv (.cv ⟨.slice (.st (.pair (.slice (.int .i64)) (.pair (.str) (.unit)))),f⟩))] [(4, .cells [⟨.int .i64,t⟩,⟨.ref 0,t2⟩]),(7, .cells [⟨.int .i64,out⟩,⟨.ref 0,ai⟩])] (hs [] [] [] [] aC [] [] [] [] []) 33)
def cL (f:List ((List Int)×ByteArray×Unit))(p:Int)(j:Int)(t:Int)(t2:Nat)(out:Int)(ai:Nat)(kX:H0)(aC:H4):Option (jY×Int):=
 LL T B lf 33 0 (ms 93 [(8,aQ j),(7, .box 7 0),(4, .box 4 0),(1,aQ p),(0, .rv (.cv ⟨.slice (.st (.pair (.slice (.int .i64)) (.pair (.str) (.unit)))),f⟩))] [(4, .cells [⟨.int .i64,t⟩,⟨.ref 0,t2⟩]),(7, .cells [⟨.int .i64,out⟩,⟨.ref 0,ai⟩])] (hs kX [] [] [] aC [] [] [] [] []) 33)
def dw (f:List ((List Int)×ByteArray×Unit))(p:Int)(j:Int)(v:Nat)(b6:List (List Int))(k:Int)(t:Int)(t2:Nat)(out:Int)(ai:Nat)(kX:H0)(aC:H4):Option (jY×Int):=
 LL T B lf 33 1 (ms 93 [(11,aQ k),(10, .rv (.cv ⟨.slice (.slice (.int .i64)),b6⟩)),(9, .rv (.cv ⟨.ref 4,v⟩)),(8,aQ j),(7, .box 7 0),(4, .box 4 0),(1,aQ p),(0, .rv (.cv ⟨.slice (.st (.pair (.slice (.int .i64)) (.pair (.str) (.unit)))),f⟩))] [(4, .cells [⟨.int .i64,t⟩,⟨.ref 0,t2⟩]),(7, .cells [⟨.int .i64,out⟩,⟨.ref 0,ai⟩])] (hs kX [] [] [] aC [] [] [] [] []) 33)
def eJ (f:List ((List Int)×ByteArray×Unit))(p:Int)(j:Int)(v:Nat)(b6:List (List Int))(k:Int)(i:Int)(t:Int)(t2:Nat)(out:Int)(ai:Nat)(kX:H0)(aC:H4):Option (jY×Int):=
 LL T B lf 33 2 (ms 93 [(12,aQ i),(11,aQ k),(10, .rv (.cv ⟨.slice (.slice (.int .i64)),b6⟩)),(9, .rv (.cv ⟨.ref 4,v⟩)),(8,aQ j),(7, .box 7 0),(4, .box 4 0),(1,aQ p),(0, .rv (.cv ⟨.slice (.st (.pair (.slice (.int .i64)) (.pair (.str) (.unit)))),f⟩))] [(4, .cells [⟨.int .i64,t⟩,⟨.ref 0,t2⟩]),(7, .cells [⟨.int .i64,out⟩,⟨.ref 0,ai⟩])] (hs kX [] [] [] aC [] [] [] [] []) 33)
def q7 (n:Int):Option (Int):=cu T B lf 34 n
def tg (c:jY)(i:Int)(j:Int)(k:Int)(m:Int):Option jY:=cu T B lf 35 (c,i,j,k,m)
def gT (i:Int)(j:Int)(k:Int)(m:Int)(inv:Int)(v:Nat)(a:List Int)(b:List Int)(n:Int)(c:Int)(c2:qX)(t:Int)(t2:Nat)(out:Int)(ai:Nat)(kX:H0)(aC:H4):Option jY:=
 LL T B lf 35 0 (ms 149 [(16,aQ n),(15, .rv (.cv ⟨.slice (.int .i64),b⟩)),(14, .rv (.cv ⟨.slice (.int .i64),a⟩)),(13, .rv (.cv ⟨.ref 4,v⟩)),(12,aQ inv),(11, .box 11 0),(10, .box 10 0),(5, .box 5 0),(4,aQ m),(3,aQ k),(2,aQ j),(1,aQ i)] [(5, .cells [⟨.int .i64,c⟩,⟨.slice (.st yC),c2⟩]),(10, .cells [⟨.int .i64,t⟩,⟨.ref 0,t2⟩]),(11, .cells [⟨.int .i64,out⟩,⟨.ref 0,ai⟩])] (hs kX [] [] [] aC [] [] [] [] []) 35)
def gU (i:Int)(j:Int)(m:Int)(inv:Int)(n:Int)(c:Int)(c2:qX)(t:Int)(t2:Nat)(out:Int)(ai:Nat)(kX:H0)(aC:H4):Option jY:=
 LL T B lf 35 1 (ms 149 [(17,aQ n),(12,aQ inv),(11, .box 11 0),(10, .box 10 0),(5, .box 5 0),(4,aQ m),(2,aQ j),(1,aQ i)] [(5, .cells [⟨.int .i64,c⟩,⟨.slice (.st yC),c2⟩]),(10, .cells [⟨.int .i64,t⟩,⟨.ref 0,t2⟩]),(11, .cells [⟨.int .i64,out⟩,⟨.ref 0,ai⟩])] (hs kX [] [] [] aC [] [] [] [] []) 35)
def ed (p:Int):Option (Bool):=cu T B lf 36 p
def eD (p:Int)(k:Int):Option (Bool):=
 LL T B lf 36 0 (ms 23 [(3,aQ k),(0,aQ p)] [] h0 36)
def p7 (c:jY)(j:Int):Option (Int):=cu T B lf 37 (c,j)
def fu (j:Int)(i:Int)(c:Int)(c2:qX)(x:Int)(x2:ByteArray)(x3:b9):Option (Int):=
 LL T B lf 37 0 (ms 95 [(7,aQ i),(5, .box 5 0),(2, .box 2 0),(1,aQ j)] [(2, .cells [⟨.int .i64,c⟩,⟨.slice (.st yC),c2⟩]),(5, .cells [⟨.int .i64,x⟩,⟨.str,x2⟩,⟨.slice (.st yT),x3⟩])] h0 37)
def b7 (j:Int)(i:Int)(c:Int)(c2:qX)(x:Int)(x2:ByteArray)(x3:b9):Option (Int):=
 LL T B lf 37 1 (ms 95 [(8,aQ i),(5, .box 5 0),(2, .box 2 0),(1,aQ j)] [(2, .cells [⟨.int .i64,c⟩,⟨.slice (.st yC),c2⟩]),(5, .cells [⟨.int .i64,x⟩,⟨.str,x2⟩,⟨.slice (.st yT),x3⟩])] h0 37)
def q8 (x:b9)(n:Int):Option (List Int):=cu T B lf 38 (x,n)
def ga (x:b9)(i:Int)(out:List Int):Option (List Int):=
 LL T B lf 38 0 ⟨⟨28,[(6,aQ i),(5, .rv (.own 5)),(0, .rv (.cv ⟨.slice (.st yT),x⟩))],gl⟩,[(5,⟨3, .int .i64,out⟩)],[],h0,⟨.unit,()⟩,[],T.sites 38⟩
def p8 (v:List Int):Option b9:=cu T B lf 40 v
def fw (v:List Int)(i:Int)(out:b9):Option b9:=
 LL T B lf 40 0 ⟨⟨26,[(4,aQ i),(3, .rv (.own 3)),(0, .rv (.cv ⟨.slice (.int .i64),v⟩))],gl⟩,[(3,⟨44, .st yT,out⟩)],[],h0,⟨.unit,()⟩,[],T.sites 40⟩
def jz (c:jY):Option (Int):=cu T B lf 41 c
def dG (t:qX)(t2:Int)(t3:Int)(c:Int)(c2:qX)(last:Bool)(VN:List Int)(VO:Bool)(VP:List Int):Option (Int):=
 LL T B lf 41 0 (ms 81 [(20,aQ t3),(19,aQ t2),(18, .rv (.cv ⟨.slice (.st yC),t⟩)),(3, .box 3 0),(1, .box 1 0)] [(1, .cells [⟨.int .i64,c⟩,⟨.slice (.st yC),c2⟩]),(3, .cells [⟨.bool,last⟩,⟨.slice (.int .u32),VN⟩,⟨.bool,VO⟩,⟨.slice (.int .u32),VP⟩])] h0 41)
def gr (a:ByteArray):Option (((Bool×(List Int)×Unit)×(Bool×(List Int)×Unit)×Unit)×Bool):=cu T B lf 42 a
def oV (a:(Bool×(List Int)×Unit)×(Bool×(List Int)×Unit)×Unit):Option ((Bool×(List Int)×Unit)×(Bool×(List Int)×Unit)×Unit):=cu T B lf 43 a
def mC (a:(Bool×(List Int)×Unit)×(Bool×(List Int)×Unit)×Unit):Option (ByteArray):=cu T B lf 44 a
def slices_SortFunc (x:Nat)(fh:H2):Option ((Unit)×H2):=cu T B lf 50 ((x,()),fh)
def q9 (l:List (List Int)):Option (List (List Int)):=cu T B lf 53 l
def gd (l:List (List Int))(i:Int)(out:List (List Int)):Option (List (List Int)):=
 LL T B lf 53 0 ⟨⟨21,[(4,aQ i),(3, .rv (.own 3)),(0, .rv (.cv ⟨.slice (.slice (.int .i64)),l⟩))],gl⟩,[(3,⟨26, .slice (.int .i64),out⟩)],[],h0,⟨.unit,()⟩,[],T.sites 53⟩
def ra (l:List (List Int))(most:Int)(QE:Int)(n:Int):Option (List (List Int)):=cu T B lf 54 (l,most,QE,n)
def gf (l:List (List Int))(most:Int)(QE:Int)(n:Int)(i:Int)(QF:List (List Int)):Option (List (List Int)):=
 LL T B lf 54 0 ⟨⟨49,[(10,aQ i),(9, .rv (.own 9)),(3,aQ n),(2,aQ QE),(1,aQ most),(0, .rv (.cv ⟨.slice (.slice (.int .i64)),l⟩))],gl⟩,[(9,⟨26, .slice (.int .i64),QF⟩)],[],h0,⟨.unit,()⟩,[],T.sites 54⟩
def eE (t:List (List Int))(t2:Int)(t3:Int)(out:List (List Int)):Option (List (List Int)):=
 LL T B lf 54 1 ⟨⟨49,[(39,aQ t3),(38,aQ t2),(37, .rv (.cv ⟨.slice (.slice (.int .i64)),t⟩)),(11, .rv (.own 11))],gl⟩,[(11,⟨99, .slice (.int .i64),out⟩)],[],h0,⟨.unit,()⟩,[],T.sites 54⟩
def rb (n:Int):Option (ByteArray):=cu T B lf 55 n
def ym (l:List (List Int))(values:List ByteArray):Option ((List ((List Int)×ByteArray×Unit))×Int):=cu T B lf 56 (l,values)
def jL (l:List (List Int))(values:List ByteArray)(i:Int):Option ((List ((List Int)×ByteArray×Unit))×Int):=
 LL T B lf 56 0 (ms 83 [(7,aQ i),(1, .rv (.cv ⟨.slice (.str),values⟩)),(0, .rv (.cv ⟨.slice (.slice (.int .i64)),l⟩))] [] h0 56)
def gV (l:List (List Int))(values:List ByteArray)(i:Int)(out:List ((List Int)×ByteArray×Unit)):Option ((List ((List Int)×ByteArray×Unit))×Int):=
 LL T B lf 56 1 ⟨⟨83,[(9,aQ i),(8, .rv (.own 8)),(1, .rv (.cv ⟨.slice (.str),values⟩)),(0, .rv (.cv ⟨.slice (.slice (.int .i64)),l⟩))],gl⟩,[(8,⟨101, .st (.pair (.slice (.int .i64)) (.pair (.str) (.unit))),out⟩)],[],h0,⟨.unit,()⟩,[],T.sites 56⟩
def jM (l:List (List Int))(values:List ByteArray)(i:Int)(Uf:ByteArray)(k:Int)(out:List ((List Int)×ByteArray×Unit)):Option ((List ((List Int)×ByteArray×Unit))×Int):=
 LL T B lf 56 2 ⟨⟨83,[(11,aQ k),(10, .rv (.cv ⟨.str,Uf⟩)),(9,aQ i),(8, .rv (.own 8)),(1, .rv (.cv ⟨.slice (.str),values⟩)),(0, .rv (.cv ⟨.slice (.slice (.int .i64)),l⟩))],gl⟩,[(8,⟨101, .st (.pair (.slice (.int .i64)) (.pair (.str) (.unit))),out⟩)],[],h0,⟨.unit,()⟩,[],T.sites 56⟩
def jN (f:List ((List Int)×ByteArray×Unit)):Option (Int):=cu T B lf 57 f
def cw (f:List ((List Int)×ByteArray×Unit))(i:Int):Option (Int):=
 LL T B lf 57 0 (ms 59 [(3,aQ i),(0, .rv (.cv ⟨.slice (.st (.pair (.slice (.int .i64)) (.pair (.str) (.unit)))),f⟩))] [] h0 57)
def dd (f:List ((List Int)×ByteArray×Unit))(i:Int)(b6:List (List Int))(k:Int):Option (Int):=
 LL T B lf 57 1 (ms 59 [(6,aQ k),(5, .rv (.cv ⟨.slice (.slice (.int .i64)),b6⟩)),(3,aQ i),(0, .rv (.cv ⟨.slice (.st (.pair (.slice (.int .i64)) (.pair (.str) (.unit)))),f⟩))] [] h0 57)
def bB (s:List Int):Option (List (List Int)):=cu T B lf 58 s
def cO (s:List Int)(i:Int)(out:List (List Int)):Option (List (List Int)):=
 LL T B lf 58 0 ⟨⟨23,[(4,aQ i),(3, .rv (.own 3)),(0, .rv (.cv ⟨.slice (.int .i64),s⟩))],gl⟩,[(3,⟨26, .slice (.int .i64),out⟩)],[],h0,⟨.unit,()⟩,[],T.sites 58⟩
def aT (a:List Int)(b:List Int):Option (Int):=cu T B lf 59 (a,b)
def eK (a:List Int)(b:List Int)(i:Int):Option (Int):=
 LL T B lf 59 0 (ms 40 [(5,aQ i),(1, .rv (.cv ⟨.slice (.int .i64),b⟩)),(0, .rv (.cv ⟨.slice (.int .i64),a⟩))] [] h0 59)
def nv (p:Int)(a:Int):Option (Int):=cu T B lf 60 (p,a)
def eQ (p:Int)(a:Int)(b:Int):Option (Int):=
 LL T B lf 60 0 (ms 18 [(5,aQ b),(1,aQ a),(0,aQ p)] [] h0 60)
def c9 (a:ByteArray):Option (Bool):=cu T B lf 61 a
def p9 (p:Int)(x:b9):Option (Int):=cu T B lf 62 (p,x)
def fx (p:Int)(x:b9)(i:Int):Option (Int):=
 LL T B lf 62 0 (ms 59 [(5,aQ i),(1, .rv (.cv ⟨.slice (.st yT),x⟩)),(0,aQ p)] [] h0 62)
def rf (c:jY)(x:b9):Option (List Int):=cu T B lf 63 (c,x)
def eF (x:b9)(i:Int)(out:List Int)(c:Int)(c2:qX):Option (List Int):=
 LL T B lf 63 0 ⟨⟨66,[(6,aQ i),(5, .rv (.own 5)),(2, .box 2 0),(1, .rv (.cv ⟨.slice (.st yT),x⟩))],gl⟩,[(5,⟨3, .int .i64,out⟩)],[(2, .cells [⟨.int .i64,c⟩,⟨.slice (.st yC),c2⟩])],h0,⟨.unit,()⟩,[],T.sites 63⟩
def gg (x:b9)(i:Int)(b:b9)(k:Int)(out:List Int)(c:Int)(c2:qX):Option (List Int):=
 LL T B lf 63 1 ⟨⟨66,[(8,aQ k),(7, .rv (.cv ⟨.slice (.st yT),b⟩)),(6,aQ i),(5, .rv (.own 5)),(2, .box 2 0),(1, .rv (.cv ⟨.slice (.st yT),x⟩))],gl⟩,[(5,⟨3, .int .i64,out⟩)],[(2, .cells [⟨.int .i64,c⟩,⟨.slice (.st yC),c2⟩])],h0,⟨.unit,()⟩,[],T.sites 63⟩
def aX (a:ByteArray)(b:ByteArray):Option (Int):=cu T B lf 64 (a,b)
def cG (a:ByteArray):Option (ByteArray×ByteArray×Bool):=cu T B lf 65 a
def de (a:ByteArray)(i:Int):Option (ByteArray×ByteArray×Bool):=
 LL T B lf 65 0 (ms 24 [(5,aQ i),(0, .rv (.cv ⟨.str,a⟩))] [] h0 65)
def df (a:ByteArray):Option (ByteArray):=cu T B lf 66 a
def lO (p:Int):Option (Bool):=cu T B lf 67 p
def jA (p:Int)(t:Int):Option (Bool):=
 LL T B lf 67 0 (ms 27 [(4,aQ t),(0,aQ p)] [] h0 67)
def ui (a:ByteArray):Option (Bool):=cu T B lf 68 a
def lj (p:Int)(c:b9):Option (Int):=cu T B lf 69 (p,c)
def gu (p:Int)(c:b9)(t:b9)(t2:Int)(t3:Int):Option (Int):=
 LL T B lf 69 0 (ms 52 [(12,aQ t3),(11,aQ t2),(10, .rv (.cv ⟨.slice (.st yT),t⟩)),(1, .rv (.cv ⟨.slice (.st yT),c⟩)),(0,aQ p)] [] h0 69)
def sG (t:Int×Int×Unit)(t2:Int):Option (Bool):=cu T B lf 71 (t,t2)
def sH (t:Int×Int×Unit)(t2:jY)(t3:zqC):Option (Bool):=cu T B lf 72 (t,t2,t3)
def uj (c:jY)(x:b9):Option b9:=cu T B lf 73 (c,x)
def mD (t:b9)(t2:Int)(t3:Int)(out:b9)(c:Int)(c2:qX):Option b9:=
 LL T B lf 73 0 ⟨⟨31,[(9,aQ t3),(8,aQ t2),(7, .rv (.cv ⟨.slice (.st yT),t⟩)),(4, .rv (.own 4)),(2, .box 2 0)],gl⟩,[(4,⟨44, .st yT,out⟩)],[(2, .cells [⟨.int .i64,c⟩,⟨.slice (.st yC),c2⟩])],h0,⟨.unit,()⟩,[],T.sites 73⟩
def fe (out:b9)(t:b9)(t2:Int)(t3:Int)(c:Int)(c2:qX):Option b9:=
 LL T B lf 73 0 (ms 31 [(9,aQ t3),(8,aQ t2),(7, .rv (.cv ⟨.slice (.st yT),t⟩)),(4, .rv (.cv ⟨.slice (.st yT),out⟩)),(2, .box 2 0)] [(2, .cells [⟨.int .i64,c⟩,⟨.slice (.st yC),c2⟩])] h0 73)
def oW (a:(Bool×(List Int)×Unit)×(Bool×(List Int)×Unit)×Unit)(b:(Bool×(List Int)×Unit)×(Bool×(List Int)×Unit)×Unit):Option (Int):=cu T B lf 74 (a,b)
def uk (s:ByteArray)(sep:ByteArray):Option (ByteArray×ByteArray×Bool):=cu T B lf 75 (s,sep)
def E6 (a:ByteArray):Option ((Bool×(List Int)×Unit)×Bool):=cu T B lf 76 a
def jB (s:ByteArray)(neg:Bool)(Ek:Int)(d:List Int)(t:Bool)(t2:List Int):Option ((Bool×(List Int)×Unit)×Bool):=
 LL T B lf 76 0 ⟨⟨71,[(7,aQ Ek),(6, .rv (.own 6)),(5, .rv (.cv ⟨.bool,neg⟩)),(4, .rv (.cv ⟨.str,s⟩)),(2, .box 2 0)],gl⟩,[(6,⟨168, .int .u32,d⟩)],[(2, .cells [⟨.bool,t⟩,⟨.slice (.int .u32),t2⟩])],h0,⟨.unit,()⟩,[],T.sites 76⟩
def np (s:ByteArray)(neg:Bool)(Ek:Int)(x:Int)(t:List Int)(t2:Int)(t3:Int)(d:List Int)(t4:Bool)(t5:List Int):Option ((Bool×(List Int)×Unit)×Bool):=
 LL T B lf 76 1 ⟨⟨71,[(46,aQ t3),(45,aQ t2),(44, .rv (.cv ⟨.slice (.int .u8),t⟩)),(8, .rv (.cv ⟨.int .u32,x⟩)),(7,aQ Ek),(6, .rv (.own 6)),(5, .rv (.cv ⟨.bool,neg⟩)),(4, .rv (.cv ⟨.str,s⟩)),(2, .box 2 0)],gl⟩,[(6,⟨168, .int .u32,d⟩)],[(2, .cells [⟨.bool,t4⟩,⟨.slice (.int .u32),t5⟩])],h0,⟨.unit,()⟩,[],T.sites 76⟩
def xJ (n:Int):Option (Bool×(List Int)×Unit):=cu T B lf 77 n
def um (u:Int)(neg:Bool)(d:List Int)(t:Bool)(t2:List Int):Option (Bool×(List Int)×Unit):=
 LL T B lf 77 0 ⟨⟨26,[(5, .rv (.own 5)),(4, .rv (.cv ⟨.bool,neg⟩)),(3, .rv (.cv ⟨.int .u64,u⟩)),(2, .box 2 0)],gl⟩,[(5,⟨168, .int .u32,d⟩)],[(2, .cells [⟨.bool,t⟩,⟨.slice (.int .u32),t2⟩])],h0,⟨.unit,()⟩,[],T.sites 77⟩
def iB (a:Bool×(List Int)×Unit):Option (Int):=cu T B lf 78 a
def fJ (a:Bool×(List Int)×Unit)(b:Bool×(List Int)×Unit):Option (Int):=cu T B lf 79 (a,b)
def oX (a:Bool×(List Int)×Unit)(b:Bool×(List Int)×Unit):Option (Bool×(List Int)×Unit):=cu T B lf 80 (a,b)
def ee (x:List Int)(y:List Int)(t:Bool)(t2:List Int):Option (Bool×(List Int)×Unit):=
 LL T B lf 80 0 (ms 41 [(6, .rv (.cv ⟨.slice (.int .u32),y⟩)),(5, .rv (.cv ⟨.slice (.int .u32),x⟩)),(4, .box 4 0)] [(4, .cells [⟨.bool,t⟩,⟨.slice (.int .u32),t2⟩])] h0 80)
def oY (a:Bool×(List Int)×Unit):Option (Bool×(List Int)×Unit):=cu T B lf 81 a
def jC (a:(Bool×(List Int)×Unit)×(Bool×(List Int)×Unit)×Unit):Option (Bool×(List Int)×Unit):=cu T B lf 82 a
def mE (a:Bool×(List Int)×Unit):Option (ByteArray):=cu T B lf 83 a
def dx (t:List Int)(t2:Int)(t3:Int)(out:List Int)(a:Bool)(a2:List Int):Option (ByteArray):=
 LL T B lf 83 0 ⟨⟨81,[(21,aQ t3),(20,aQ t2),(19, .rv (.cv ⟨.slice (.int .u32),t⟩)),(3, .rv (.own 3)),(1, .box 1 0)],gl⟩,[(3,⟨5, .int .u8,out⟩)],[(1, .cells [⟨.bool,a⟩,⟨.slice (.int .u32),a2⟩])],h0,⟨.unit,()⟩,[],T.sites 83⟩
def eL (x:Int)(t:List Int)(t2:Int)(t3:Int)(t4:Int)(out:List Int)(a:Bool)(a2:List Int):Option (ByteArray):=
 LL T B lf 83 1 ⟨⟨81,[(25,aQ t4),(21,aQ t3),(20,aQ t2),(19, .rv (.cv ⟨.slice (.int .u32),t⟩)),(5, .rv (.cv ⟨.int .u32,x⟩)),(3, .rv (.own 3)),(1, .box 1 0)],gl⟩,[(3,⟨5, .int .u8,out⟩)],[(1, .cells [⟨.bool,a⟩,⟨.slice (.int .u32),a2⟩])],h0,⟨.unit,()⟩,[],T.sites 83⟩
def dy (out:List Int)(a:Bool)(a2:List Int):Option (ByteArray):=
 LL T B lf 83 2 ⟨⟨81,[(3, .rv (.own 3)),(1, .box 1 0)],gl⟩,[(3,⟨5, .int .u8,out⟩)],[(1, .cells [⟨.bool,a⟩,⟨.slice (.int .u32),a2⟩])],h0,⟨.unit,()⟩,[],T.sites 83⟩
def dA (i:Int)(j:Int)(out:List Int):Option (ByteArray):=
 LL T B lf 83 3 ⟨⟨81,[(7,aQ j),(6,aQ i),(3, .rv (.own 3))],gl⟩,[(3,⟨5, .int .u8,out⟩)],[],h0,⟨.unit,()⟩,[],T.sites 83⟩
def rh (s:b9):Option b9:=cu T B lf 84 s
def j5 (c:b9):Option (Int×Bool):=cu T B lf 85 c
def Bz (p:Int)(a:Int):Option (Int×Int):=cu T B lf 86 (p,a)
def iV (p:Int)(a:b9)(k:Int)(b:b9):Option (b9×Int):=cu T B lf 87 (p,a,k,b)
def sI (p:Int)(a:Int):Option (Int):=cu T B lf 88 (p,a)
def ri (l:List Int)(most:Int)(n:Int):Option (List Int):=cu T B lf 93 (l,most,n)
def gh (l:List Int)(most:Int)(n:Int)(i:Int)(out:List Int):Option (List Int):=
 LL T B lf 93 0 ⟨⟨52,[(8,aQ i),(7, .rv (.own 7)),(2,aQ n),(1,aQ most),(0, .rv (.cv ⟨.slice (.int .i64),l⟩))],gl⟩,[(7,⟨3, .int .i64,out⟩)],[],h0,⟨.unit,()⟩,[],T.sites 93⟩
def lk (l:List (List Int)):Option (List (List Int)):=cu T B lf 94 l
def fy (l:List (List Int))(i:Int)(out:List (List Int)):Option (List (List Int)):=
 LL T B lf 94 0 ⟨⟨31,[(4,aQ i),(3, .rv (.own 3)),(0, .rv (.cv ⟨.slice (.slice (.int .i64)),l⟩))],gl⟩,[(3,⟨26, .slice (.int .i64),out⟩)],[],h0,⟨.unit,()⟩,[],T.sites 94⟩
def qq (l:List (List Int))(i:Int)(f:List (List Int))(k:Int)(out:List (List Int)):Option (List (List Int)):=
 LL T B lf 94 1 ⟨⟨31,[(6,aQ k),(5, .rv (.cv ⟨.slice (.slice (.int .i64)),f⟩)),(4,aQ i),(3, .rv (.own 3)),(0, .rv (.cv ⟨.slice (.slice (.int .i64)),l⟩))],gl⟩,[(3,⟨26, .slice (.int .i64),out⟩)],[],h0,⟨.unit,()⟩,[],T.sites 94⟩
def cm (l:List (List Int))(out:List (List Int))(i:Int)(f:List (List Int))(k:Int):Option (List (List Int)):=
 LL T B lf 94 1 (ms 31 [(6,aQ k),(5, .rv (.cv ⟨.slice (.slice (.int .i64)),f⟩)),(4,aQ i),(3, .rv (.cv ⟨.slice (.slice (.int .i64)),out⟩)),(0, .rv (.cv ⟨.slice (.slice (.int .i64)),l⟩))] [] h0 94)
def gK (l:List (List Int))(out:List (List Int))(i:Int):Option (List (List Int)):=
 LL T B lf 94 0 (ms 31 [(4,aQ i),(3, .rv (.cv ⟨.slice (.slice (.int .i64)),out⟩)),(0, .rv (.cv ⟨.slice (.slice (.int .i64)),l⟩))] [] h0 94)
def gi (a:Int)(b:Int):Option (ByteArray):=cu T B lf 95 (a,b)
def rj (l:List (List Int)):Option (Int):=cu T B lf 96 l
def eG (l:List (List Int))(i:Int):Option (Int):=
 LL T B lf 96 0 (ms 72 [(3,aQ i),(0, .rv (.cv ⟨.slice (.slice (.int .i64)),l⟩))] [] h0 96)
def gj (l:List (List Int))(i:Int)(f:List (List Int))(k:Int):Option (Int):=
 LL T B lf 96 1 (ms 72 [(6,aQ k),(5, .rv (.cv ⟨.slice (.slice (.int .i64)),f⟩)),(3,aQ i),(0, .rv (.cv ⟨.slice (.slice (.int .i64)),l⟩))] [] h0 96)
def vm (a:List Int)(b:List Int):Option (Bool):=cu T B lf 97 (a,b)
def iI (a:List Int)(b:List Int)(i:Int):Option (Bool):=
 LL T B lf 97 0 (ms 19 [(5,aQ i),(1, .rv (.cv ⟨.slice (.int .i64),b⟩)),(0, .rv (.cv ⟨.slice (.int .i64),a⟩))] [] h0 97)
def ll (l:List ((List Int)×ByteArray×Unit)):Option (List ((List Int)×ByteArray×Unit)):=cu T B lf 98 l
def bu (out:Nat)(i:Int)(aC:H4)(ko:H8):Option (List ((List Int)×ByteArray×Unit)):=
 LL T B lf 98 0 (ms 70 [(4,aQ i),(3, .rv (.cv ⟨.ref 8,out⟩))] [] (hs [] [] [] [] aC [] [] [] ko []) 98)
def dH (out:Nat)(i:Int)(k:Int)(aC:H4)(ko:H8):Option (List ((List Int)×ByteArray×Unit)):=
 LL T B lf 98 1 (ms 70 [(5,aQ k),(4,aQ i),(3, .rv (.cv ⟨.ref 8,out⟩))] [] (hs [] [] [] [] aC [] [] [] ko []) 98)
def kY (f:List ((List Int)×ByteArray×Unit))(i:Int):Option (Int):=cu T B lf 99 (f,i)
def ef (f:List ((List Int)×ByteArray×Unit))(n:Int)(s:List Int):Option (Int):=cu T B lf 100 (f,n,s)
def cz (f:List ((List Int)×ByteArray×Unit))(n:Int)(s:List Int)(i:Int):Option (Int):=
 LL T B lf 100 0 (ms 22 [(7,aQ i),(2, .rv (.cv ⟨.slice (.int .i64),s⟩)),(1,aQ n),(0, .rv (.cv ⟨.slice (.st (.pair (.slice (.int .i64)) (.pair (.str) (.unit)))),f⟩))] [] h0 100)
def gX (s:List Int)(k:Int):Option (List Int):=cu T B lf 101 (s,k)
def bH (s:List Int)(k:Int)(i:Int)(out:List Int):Option (List Int):=
 LL T B lf 101 0 ⟨⟨24,[(6,aQ i),(5, .rv (.own 5)),(1,aQ k),(0, .rv (.cv ⟨.slice (.int .i64),s⟩))],gl⟩,[(5,⟨3, .int .i64,out⟩)],[],h0,⟨.unit,()⟩,[],T.sites 101⟩
def kZ (a:ByteArray):Option (Bool):=cu T B lf 102 a
def oZ (a:ByteArray):Option (Bool):=cu T B lf 103 a
def bF (a:ByteArray)(b:ByteArray):Option (Int):=cu T B lf 104 (a,b)
def fz (a:ByteArray)(b:ByteArray):Option (ByteArray):=cu T B lf 105 (a,b)
def bq (p:Bool)(x:List Int)(q:Bool)(y:List Int)(i:Int)(out:List Int):Option (ByteArray):=
 LL T B lf 105 0 ⟨⟨120,[(14,aQ i),(13, .rv (.own 13)),(12, .rv (.cv ⟨.slice (.int .i64),y⟩)),(11, .rv (.cv ⟨.bool,q⟩)),(10, .rv (.cv ⟨.slice (.int .i64),x⟩)),(9, .rv (.cv ⟨.bool,p⟩))],gl⟩,[(13,⟨3, .int .i64,out⟩)],[],h0,⟨.unit,()⟩,[],T.sites 105⟩
def dg (p:Bool)(x:List Int)(q:Bool)(y:List Int)(i:Int)(k:Int)(out:List Int):Option (ByteArray):=
 LL T B lf 105 1 ⟨⟨120,[(15,aQ k),(14,aQ i),(13, .rv (.own 13)),(12, .rv (.cv ⟨.slice (.int .i64),y⟩)),(11, .rv (.cv ⟨.bool,q⟩)),(10, .rv (.cv ⟨.slice (.int .i64),x⟩)),(9, .rv (.cv ⟨.bool,p⟩))],gl⟩,[(13,⟨3, .int .i64,out⟩)],[],h0,⟨.unit,()⟩,[],T.sites 105⟩
def cA (p:Bool)(q:Bool)(i:Int)(out:List Int):Option (ByteArray):=
 LL T B lf 105 2 ⟨⟨120,[(16,aQ i),(13, .rv (.own 13)),(11, .rv (.cv ⟨.bool,q⟩)),(9, .rv (.cv ⟨.bool,p⟩))],gl⟩,[(13,⟨3, .int .i64,out⟩)],[],h0,⟨.unit,()⟩,[],T.sites 105⟩
def ao (a:ByteArray):Option (Bool×List Int):=cu T B lf 106 a
def cP (a:ByteArray)(minus:Bool)(i:Int)(d:List Int):Option (Bool×List Int):=
 LL T B lf 106 0 ⟨⟨37,[(6,aQ i),(5, .rv (.own 5)),(4, .rv (.cv ⟨.bool,minus⟩)),(0, .rv (.cv ⟨.str,a⟩))],gl⟩,[(5,⟨3, .int .i64,d⟩)],[],h0,⟨.unit,()⟩,[],T.sites 106⟩
def al (minus:Bool)(d:List Int):Option (ByteArray):=cu T B lf 107 (minus,d)
def dI (d:List Int)(i:Int)(out:List Int):Option (ByteArray):=
 LL T B lf 107 0 ⟨⟨34,[(6,aQ i),(5, .rv (.own 5)),(1, .rv (.cv ⟨.slice (.int .i64),d⟩))],gl⟩,[(5,⟨5, .int .u8,out⟩)],[],h0,⟨.unit,()⟩,[],T.sites 107⟩
def BA (a:ByteArray):Option (((Bool×(List Int)×Unit)×(Bool×(List Int)×Unit)×Unit)×Bool):=cu T B lf 108 a
def o5 (a:Bool×(List Int)×Unit)(b:Bool×(List Int)×Unit):Option (Bool×(List Int)×Unit):=cu T B lf 110 (a,b)
def da (t:List Int)(t2:Int)(t3:Int)(out:List Int)(a:Bool)(a2:List Int)(b:Bool)(b2:List Int)(t4:Bool)(t5:List Int):Option (Bool×(List Int)×Unit):=
 LL T B lf 110 0 ⟨⟨78,[(22,aQ t3),(21,aQ t2),(20, .rv (.cv ⟨.slice (.int .u32),t⟩)),(5, .rv (.own 5)),(4, .box 4 0),(3, .box 3 0),(2, .box 2 0)],gl⟩,[(5,⟨168, .int .u32,out⟩)],[(2, .cells [⟨.bool,a⟩,⟨.slice (.int .u32),a2⟩]),(3, .cells [⟨.bool,b⟩,⟨.slice (.int .u32),b2⟩]),(4, .cells [⟨.bool,t4⟩,⟨.slice (.int .u32),t5⟩])],h0,⟨.unit,()⟩,[],T.sites 110⟩
def fA (i:Int)(x:Int)(carry:Int)(t:List Int)(t2:Int)(t3:Int)(t4:List Int)(t5:Int)(t6:Int)(out:List Int)(a:Bool)(a2:List Int)(b:Bool)(b2:List Int)(t7:Bool)(t8:List Int):Option (Bool×(List Int)×Unit):=
 LL T B lf 110 1 ⟨⟨78,[(30,aQ t6),(29,aQ t5),(28, .rv (.cv ⟨.slice (.int .u32),t4⟩)),(22,aQ t3),(21,aQ t2),(20, .rv (.cv ⟨.slice (.int .u32),t⟩)),(8, .rv (.cv ⟨.int .u64,carry⟩)),(7, .rv (.cv ⟨.int .u32,x⟩)),(6,aQ i),(5, .rv (.own 5)),(4, .box 4 0),(3, .box 3 0),(2, .box 2 0)],gl⟩,[(5,⟨168, .int .u32,out⟩)],[(2, .cells [⟨.bool,a⟩,⟨.slice (.int .u32),a2⟩]),(3, .cells [⟨.bool,b⟩,⟨.slice (.int .u32),b2⟩]),(4, .cells [⟨.bool,t7⟩,⟨.slice (.int .u32),t8⟩])],h0,⟨.unit,()⟩,[],T.sites 110⟩
def oL (s:ByteArray)(sep:ByteArray):Option (ByteArray×ByteArray×Bool):=cu T B lf 111 (s,sep)
def iJ (s:ByteArray)(fg:ByteArray):Option (ByteArray×Bool):=cu T B lf 112 (s,fg)
def iW (neg:Bool)(d:List Int):Option (Bool×(List Int)×Unit):=cu T B lf 113 (neg,d)
def yY (a:List Int)(b:List Int):Option (Int):=cu T B lf 114 (a,b)
def nq (a:List Int)(b:List Int)(i:Int):Option (Int):=
 LL T B lf 114 0 (ms 41 [(5,aQ i),(1, .rv (.cv ⟨.slice (.int .u32),b⟩)),(0, .rv (.cv ⟨.slice (.int .u32),a⟩))] [] h0 114)
def E7 (x:Int)(y:Int):Option (Int):=cu T B lf 115 (x,y)
def ln (x:Int)(y:Int):Option (Int):=
 LL T B lf 115 0 (ms 12 [(1,aQ y),(0,aQ x)] [] h0 115)
def E8 (d:List Int):Option (Int):=cu T B lf 116 d
def qs (d:List Int)(n:Int)(i:Int):Option (Int):=
 LL T B lf 116 0 (ms 21 [(4,aQ i),(3,aQ n),(0, .rv (.cv ⟨.slice (.int .u32),d⟩))] [] h0 116)
def xK (a:List Int)(b:List Int):Option ((List Int)×List Int):=cu T B lf 117 (a,b)
def mF (d:List Int):Option (List Int):=cu T B lf 118 d
def nr (d:List Int):Option (List Int):=
 LL T B lf 118 0 (ms 21 [(0, .rv (.cv ⟨.slice (.int .u32),d⟩))] [] h0 118)
def GJ (p:Int):Option (Int×Int):=cu T B lf 119 p
def dW (f:Int)(a:Int):Option (Int):=cu T B lf 120 (f,a)
def j6 (f:Int)(a:Int):Option (Int):=cu T B lf 121 (f,a)
def oM (p:Int)(l:List b9):Option (Int):=cu T B lf 122 (p,l)
def fi (p:Int)(t:List b9)(t2:Int)(t3:Int):Option (Int):=
 LL T B lf 122 0 (ms 21 [(10,aQ t3),(9,aQ t2),(8, .rv (.cv ⟨.slice (.slice (.st yT)),t⟩)),(0,aQ p)] [] h0 122)
def uo (p:Int)(a:b9)(k:Int)(b:b9):Option b9:=cu T B lf 123 (p,a,k,b)
def iC (row:b9)(p:Int)(k:Int)(rest:List (Int×Gb×Unit)):Option b9:=
 LL T B lf 123 0 ⟨⟨36,[(9, .box 9 0),(6, .box 6 0),(4, .box 4 0)],[(10009, .box 9 0),(10006, .box 6 0),(10004, .box 4 0),(1000000000, .oT [⟨.fn,(197:Nat)⟩,⟨.bool,false⟩]),(1000000001, .oT [⟨.fn,(199:Nat)⟩,⟨.bool,true⟩])]⟩,[(9,⟨44, .st yT,row⟩)],[(4, .cells [⟨.int .i64,p⟩]),(6, .cells [⟨.int .i64,k⟩]),(9, .own 9)],h0,⟨.unit,()⟩,[⟨[.int .i64, .st yT],rest⟩],T.sites 123⟩
def o6 (a:List Int)(v:Int):Option (Bool):=cu T B lf 134 (a,v)
def jO (a:List Int)(v:Int)(i:Int):Option (Bool):=
 LL T B lf 134 0 (ms 18 [(5,aQ i),(1,aQ v),(0, .rv (.cv ⟨.slice (.int .i64),a⟩))] [] h0 134)
def iK (l:List Int):Option ((List Int)×Int):=cu T B lf 135 l
def dJ (n:Int)(i:Int)(out:List Int):Option ((List Int)×Int):=
 LL T B lf 135 0 ⟨⟨54,[(6,aQ i),(5,aQ n),(4, .rv (.own 4))],gl⟩,[(4,⟨3, .int .i64,out⟩)],[],h0,⟨.unit,()⟩,[],T.sites 135⟩
def fB (n:Int)(i:Int)(k:Int)(out:List Int):Option ((List Int)×Int):=
 LL T B lf 135 1 ⟨⟨54,[(7,aQ k),(6,aQ i),(5,aQ n),(4, .rv (.own 4))],gl⟩,[(4,⟨3, .int .i64,out⟩)],[],h0,⟨.unit,()⟩,[],T.sites 135⟩
def jP (s:List Int):Option (List (List Int)):=cu T B lf 136 s
def rS (s:List Int)(m:Int)(out:List (List Int)):Option (List (List Int)):=
 LL T B lf 136 0 ⟨⟨36,[(4,aQ m),(3, .rv (.own 3)),(0, .rv (.cv ⟨.slice (.int .i64),s⟩))],gl⟩,[(3,⟨26, .slice (.int .i64),out⟩)],[],h0,⟨.unit,()⟩,[],T.sites 136⟩
def gm (s:List Int)(m:Int)(i:Int)(out:List (List Int))(f:List Int):Option (List (List Int)):=
 LL T B lf 136 1 ⟨⟨36,[(6,aQ i),(5, .rv (.own 5)),(4,aQ m),(3, .rv (.own 3)),(0, .rv (.cv ⟨.slice (.int .i64),s⟩))],gl⟩,[(3,⟨26, .slice (.int .i64),out⟩),(5,⟨3, .int .i64,f⟩)],[],h0,⟨.unit,()⟩,[],T.sites 136⟩
def cQ (s:List Int)(out:List (List Int))(m:Int):Option (List (List Int)):=
 LL T B lf 136 0 (ms 36 [(4,aQ m),(3, .rv (.cv ⟨.slice (.slice (.int .i64)),out⟩)),(0, .rv (.cv ⟨.slice (.int .i64),s⟩))] [] h0 136)
def fC (s:List Int)(out:List (List Int))(m:Int)(i:Int)(f:List Int):Option (List (List Int)):=
 LL T B lf 136 1 ⟨⟨36,[(6,aQ i),(5, .rv (.own 5)),(4,aQ m),(3, .rv (.cv ⟨.slice (.slice (.int .i64)),out⟩)),(0, .rv (.cv ⟨.slice (.int .i64),s⟩))],gl⟩,[(5,⟨3, .int .i64,f⟩)],[],h0,⟨.unit,()⟩,[],T.sites 136⟩
def eZ (l:List (List Int))(s:List Int):Option (List (List Int)):=cu T B lf 137 (l,s)
def iL (l:List (List Int))(s:List Int)(done:Bool)(i:Int)(out:List (List Int)):Option (List (List Int)):=
 LL T B lf 137 0 ⟨⟨48,[(7,aQ i),(6, .rv (.cv ⟨.bool,done⟩)),(5, .rv (.own 5)),(1, .rv (.cv ⟨.slice (.int .i64),s⟩)),(0, .rv (.cv ⟨.slice (.slice (.int .i64)),l⟩))],gl⟩,[(5,⟨26, .slice (.int .i64),out⟩)],[],h0,⟨.unit,()⟩,[],T.sites 137⟩
def j7 (n:ByteArray)(d:ByteArray):Option (ByteArray):=cu T B lf 138 (n,d)
def bC (n:Int):Option (ByteArray):=cu T B lf 139 n
def cR (q:Int)(d:List Int):Option (ByteArray):=
 LL T B lf 139 0 ⟨⟨42,[(5, .rv (.own 5)),(3,aQ q)],gl⟩,[(5,⟨3, .int .i64,d⟩)],[],h0,⟨.unit,()⟩,[],T.sites 139⟩
def cS (n:Int)(d:List Int):Option (ByteArray):=
 LL T B lf 139 1 ⟨⟨42,[(6, .rv (.own 6)),(0,aQ n)],gl⟩,[(6,⟨3, .int .i64,d⟩)],[],h0,⟨.unit,()⟩,[],T.sites 139⟩
def fD (s:List Int):Option (Int):=cu T B lf 140 s
def dh (s:List Int)(i:Int):Option (Int):=
 LL T B lf 140 0 (ms 45 [(3,aQ i),(0, .rv (.cv ⟨.slice (.int .i64),s⟩))] [] h0 140)
def di (s:List Int)(i:Int):Option (Int):=
 LL T B lf 140 1 (ms 45 [(4,aQ i),(0, .rv (.cv ⟨.slice (.int .i64),s⟩))] [] h0 140)
def rk (l:List (List Int))(s:List Int):Option (Int):=cu T B lf 141 (l,s)
def gp (l:List (List Int))(s:List Int)(i:Int):Option (Int):=
 LL T B lf 141 0 (ms 20 [(5,aQ i),(1, .rv (.cv ⟨.slice (.int .i64),s⟩)),(0, .rv (.cv ⟨.slice (.slice (.int .i64)),l⟩))] [] h0 141)
def qa (l:List ((List Int)×ByteArray×Unit))(ko:H8)(aC:H4):Option ((Nat)×H8×H4):=cu T B lf 142 (l,(ko,aC))
def fE (l:List ((List Int)×ByteArray×Unit))(out:Nat)(i:Int)(aC:H4)(ko:H8):Option ((Nat)×H8×H4):=
 LL T B lf 142 0 (ms 28 [(4,aQ i),(3, .rv (.cv ⟨.ref 8,out⟩)),(0, .rv (.cv ⟨.slice (.st (.pair (.slice (.int .i64)) (.pair (.str) (.unit)))),l⟩))] [] (hs [] [] [] [] aC [] [] [] ko []) 142)
def iX (a:ByteArray):Option (Bool):=cu T B lf 143 a
def jQ (a:ByteArray):Option (Bool):=cu T B lf 144 a
def cB (s:ByteArray)(i:Int):Option (Bool):=
 LL T B lf 144 0 (ms 53 [(4,aQ i),(3, .rv (.cv ⟨.str,s⟩))] [] h0 144)
def dK (a:ByteArray)(b:ByteArray):Option (ByteArray):=cu T B lf 145 (a,b)
def cn (x:ByteArray)(y:ByteArray):Option (ByteArray):=
 LL T B lf 145 0 (ms 24 [(6, .rv (.cv ⟨.str,y⟩)),(5, .rv (.cv ⟨.str,x⟩))] [] h0 145)
def c8 (a:List Int)(b:List Int):Option (Int):=cu T B lf 146 (a,b)
def dL (a:List Int)(b:List Int)(i:Int):Option (Int):=
 LL T B lf 146 0 (ms 41 [(5,aQ i),(1, .rv (.cv ⟨.slice (.int .i64),b⟩)),(0, .rv (.cv ⟨.slice (.int .i64),a⟩))] [] h0 146)
def db (a:ByteArray):Option (Int×Bool):=cu T B lf 147 a
def dj (a:ByteArray)(n:Int)(i:Int):Option (Int×Bool):=
 LL T B lf 147 0 (ms 38 [(5,aQ i),(4,aQ n),(0, .rv (.cv ⟨.str,a⟩))] [] h0 147)
def bb (d:List Int):Option (List Int):=cu T B lf 148 d
def dM (d:List Int):Option (List Int):=
 LL T B lf 148 0 (ms 21 [(0, .rv (.cv ⟨.slice (.int .i64),d⟩))] [] h0 148)
def mG (a:(Bool×(List Int)×Unit)×(Bool×(List Int)×Unit)×Unit):Option (Bool):=cu T B lf 149 a
def iM (s:ByteArray)(substr:ByteArray):Option (Int):=cu T B lf 150 (s,substr)
def gL (s:ByteArray)(fg:ByteArray):Option (ByteArray×Bool):=cu T B lf 151 (s,fg)
def uq (a:List Int)(b:Int):Option ((List Int)×Int):=cu T B lf 152 (a,b)
def lq (a:List Int)(b:Int)(rest:Int)(i:Int)(out:List Int):Option ((List Int)×Int):=
 LL T B lf 152 0 ⟨⟨42,[(8,aQ i),(7, .rv (.cv ⟨.int .u64,rest⟩)),(6, .rv (.own 6)),(1, .rv (.cv ⟨.int .u32,b⟩)),(0, .rv (.cv ⟨.slice (.int .u32),a⟩))],gl⟩,[(6,⟨168, .int .u32,out⟩)],[],h0,⟨.unit,()⟩,[],T.sites 152⟩
def E9 (a:List Int)(b:List Int):Option ((List Int)×List Int):=cu T B lf 153 (a,b)
def eM (k:Int)(v:List Int)(n:Int)(j:Int)(q:List Int)(u:List Int):Option ((List Int)×List Int):=
 LL T B lf 153 0 ⟨⟨239,[(10,aQ j),(9,aQ n),(8, .rv (.cv ⟨.slice (.int .u32),v⟩)),(7, .rv (.own 7)),(6, .rv (.cv ⟨.int .u32,k⟩)),(4, .rv (.own 4))],gl⟩,[(4,⟨168, .int .u32,q⟩),(7,⟨168, .int .u32,u⟩)],[],h0,⟨.unit,()⟩,[],T.sites 153⟩
def jD (k:Int)(v:List Int)(n:Int)(j:Int)(guess:Int)(rest:Int)(q:List Int)(u:List Int):Option ((List Int)×List Int):=
 LL T B lf 153 1 ⟨⟨239,[(13, .rv (.cv ⟨.int .u64,rest⟩)),(12, .rv (.cv ⟨.int .u64,guess⟩)),(10,aQ j),(9,aQ n),(8, .rv (.cv ⟨.slice (.int .u32),v⟩)),(7, .rv (.own 7)),(6, .rv (.cv ⟨.int .u32,k⟩)),(4, .rv (.own 4))],gl⟩,[(4,⟨168, .int .u32,q⟩),(7,⟨168, .int .u32,u⟩)],[],h0,⟨.unit,()⟩,[],T.sites 153⟩
def gv (k:Int)(v:List Int)(n:Int)(j:Int)(guess:Int)(borrow:Int)(t:Int)(t2:Int)(q:List Int)(u:List Int):Option ((List Int)×List Int):=
 LL T B lf 153 2 ⟨⟨239,[(124,aQ t2),(123,aQ t),(14,aQ borrow),(12, .rv (.cv ⟨.int .u64,guess⟩)),(10,aQ j),(9,aQ n),(8, .rv (.cv ⟨.slice (.int .u32),v⟩)),(7, .rv (.own 7)),(6, .rv (.cv ⟨.int .u32,k⟩)),(4, .rv (.own 4))],gl⟩,[(4,⟨168, .int .u32,q⟩),(7,⟨168, .int .u32,u⟩)],[],h0,⟨.unit,()⟩,[],T.sites 153⟩
def lr (k:Int)(v:List Int)(n:Int)(j:Int)(guess:Int)(x:Int)(carry:Int)(t:Int)(t2:Int)(q:List Int)(u:List Int):Option ((List Int)×List Int):=
 LL T B lf 153 3 ⟨⟨239,[(189,aQ t2),(188,aQ t),(18, .rv (.cv ⟨.int .u32,carry⟩)),(17,aQ x),(12, .rv (.cv ⟨.int .u64,guess⟩)),(10,aQ j),(9,aQ n),(8, .rv (.cv ⟨.slice (.int .u32),v⟩)),(7, .rv (.own 7)),(6, .rv (.cv ⟨.int .u32,k⟩)),(4, .rv (.own 4))],gl⟩,[(4,⟨168, .int .u32,q⟩),(7,⟨168, .int .u32,u⟩)],[],h0,⟨.unit,()⟩,[],T.sites 153⟩
def mH (f:Int)(a:Int)(n:Int):Option (Int):=cu T B lf 154 (f,a,n)
def eH (f:Int)(n:Int)(out:Int)(base:Int):Option (Int):=
 LL T B lf 154 0 (ms 30 [(8,aQ base),(7,aQ out),(2,aQ n),(0,aQ f)] [] h0 154)
def sJ (a:b9)(b:b9):Option (b9×b9):=cu T B lf 155 (a,b)
def dk (a:ByteArray)(b:ByteArray):Option (ByteArray×ByteArray):=cu T B lf 161 (a,b)
def bh (b:ByteArray)(p:Bool)(x:List Int)(s:Bool)(y:List Int)(r:List Int)(i:Int)(q:List Int):Option (ByteArray×ByteArray):=
 LL T B lf 161 0 ⟨⟨164,[(19,aQ i),(18, .rv (.cv ⟨.slice (.int .i64),r⟩)),(17, .rv (.own 17)),(15, .rv (.cv ⟨.slice (.int .i64),y⟩)),(14, .rv (.cv ⟨.bool,s⟩)),(13, .rv (.cv ⟨.slice (.int .i64),x⟩)),(12, .rv (.cv ⟨.bool,p⟩)),(1, .rv (.cv ⟨.str,b⟩))],gl⟩,[(17,⟨3, .int .i64,q⟩)],[],h0,⟨.unit,()⟩,[],T.sites 161⟩
def b8 (b:ByteArray)(p:Bool)(x:List Int)(s:Bool)(y:List Int)(r:List Int)(i:Int)(k:Int)(q:List Int):Option (ByteArray×ByteArray):=
 LL T B lf 161 1 ⟨⟨164,[(20,aQ k),(19,aQ i),(18, .rv (.cv ⟨.slice (.int .i64),r⟩)),(17, .rv (.own 17)),(15, .rv (.cv ⟨.slice (.int .i64),y⟩)),(14, .rv (.cv ⟨.bool,s⟩)),(13, .rv (.cv ⟨.slice (.int .i64),x⟩)),(12, .rv (.cv ⟨.bool,p⟩)),(1, .rv (.cv ⟨.str,b⟩))],gl⟩,[(17,⟨3, .int .i64,q⟩)],[],h0,⟨.unit,()⟩,[],T.sites 161⟩
def aF (b:ByteArray)(p:Bool)(s:Bool)(r:List Int)(i:Int)(q:List Int):Option (ByteArray×ByteArray):=
 LL T B lf 161 2 ⟨⟨164,[(21,aQ i),(18, .rv (.cv ⟨.slice (.int .i64),r⟩)),(17, .rv (.own 17)),(14, .rv (.cv ⟨.bool,s⟩)),(12, .rv (.cv ⟨.bool,p⟩)),(1, .rv (.cv ⟨.str,b⟩))],gl⟩,[(17,⟨3, .int .i64,q⟩)],[],h0,⟨.unit,()⟩,[],T.sites 161⟩
def eN (a:ByteArray):Option (Int):=cu T B lf 162 a
def gq (a:ByteArray):Option (ByteArray):=cu T B lf 163 a
def mI (a:Bool×(List Int)×Unit):Option (Bool):=cu T B lf 164 a
def eS (s:ByteArray)(c:Int):Option (Int):=cu T B lf 165 (s,c)
def gM (s:ByteArray)(fg:ByteArray):Option (Bool):=cu T B lf 169 (s,fg)
def xL (a:List Int)(k:Int):Option (List Int):=cu T B lf 170 (a,k)
def jE (k:Int)(carry:Int)(t:List Int)(t2:Int)(t3:Int)(out:List Int):Option (List Int):=
 LL T B lf 170 0 ⟨⟨40,[(15,aQ t3),(14,aQ t2),(13, .rv (.cv ⟨.slice (.int .u32),t⟩)),(6, .rv (.cv ⟨.int .u64,carry⟩)),(5, .rv (.own 5)),(1, .rv (.cv ⟨.int .u32,k⟩))],gl⟩,[(5,⟨168, .int .u32,out⟩)],[],h0,⟨.unit,()⟩,[],T.sites 170⟩
def oN (t:b9)(t2:b9):Option (List (Int×Gb×Unit)):=cu T B lf 171 ((),t,t2)
def dN (t:b9)(t2:b9)(trace:List (Int×Gb×Unit)):Option (List (Int×Gb×Unit)):=
 LL T B lf 171 0 ⟨⟨94,[(2, .box 2 0),(1, .box 1 0),(0, .Lo)],gl⟩,[],[(1, .cells [⟨.slice (.st yT),t⟩]),(2, .cells [⟨.slice (.st yT),t2⟩])],h0,⟨.slice (.pair (.int .i64) (.pair (.st yT) (.unit))),trace⟩,[],T.sites 171⟩
def aU (a:List Int)(b:List Int):Option (List Int):=cu T B lf 173 (a,b)
def bw (a:List Int)(b:List Int)(borrow:Int)(i:Int)(out:List Int):Option (List Int):=
 LL T B lf 173 0 ⟨⟨41,[(7,aQ i),(6,aQ borrow),(5, .rv (.own 5)),(1, .rv (.cv ⟨.slice (.int .i64),b⟩)),(0, .rv (.cv ⟨.slice (.int .i64),a⟩))],gl⟩,[(5,⟨3, .int .i64,out⟩)],[],h0,⟨.unit,()⟩,[],T.sites 173⟩
def jR (a:ByteArray)(b:ByteArray):Option (ByteArray):=cu T B lf 174 (a,b)
def gw (a:ByteArray)(b:ByteArray):Option (ByteArray):=cu T B lf 175 (a,b)
def gY (a:Bool×(List Int)×Unit):Option (Int):=cu T B lf 176 a
def dm (n:Int)(x:Int):Option (Int):=
 LL T B lf 176 0 (ms 29 [(4, .rv (.cv ⟨.int .u32,x⟩)),(3,aQ n)] [] h0 176)
def iD (a:List Int)(b:List Int):Option (List Int):=cu T B lf 179 (a,b)
def eO (a:List Int)(b:List Int)(carry:Int)(i:Int)(out:List Int):Option (List Int):=
 LL T B lf 179 0 ⟨⟨54,[(7,aQ i),(6,aQ carry),(5, .rv (.own 5)),(1, .rv (.cv ⟨.slice (.int .i64),b⟩)),(0, .rv (.cv ⟨.slice (.int .i64),a⟩))],gl⟩,[(5,⟨3, .int .i64,out⟩)],[],h0,⟨.unit,()⟩,[],T.sites 179⟩
def oO (c:jY):Option jY:=cu T B lf 196 c
def lu (t:jY):Option (List (Int×Unit)):=cu T B lf 197 ((),t)
def dO (t:Int)(t2:Int)(trace:List (Int×Unit)):Option (List (Int×Unit)):=
 LL T B lf 197 0 ⟨⟨15,[(7,aQ t2),(6,aQ t),(0, .Lo)],gl⟩,[],[],h0,⟨.slice (.pair (.int .i64) (.unit)),trace⟩,[],T.sites 197⟩
def mJ (c:jY):Option jY:=cu T B lf 198 c
def j8 (t:jY):Option (List (Int×Unit)):=cu T B lf 199 ((),t)
def dp (d:Int)(t:Int)(t2:qX)(trace:List (Int×Unit)):Option (List (Int×Unit)):=
 LL T B lf 199 0 ⟨⟨29,[(3,aQ d),(1, .box 1 0),(0, .Lo)],gl⟩,[],[(1, .cells [⟨.int .i64,t⟩,⟨.slice (.st yC),t2⟩])],h0,⟨.slice (.pair (.int .i64) (.unit)),trace⟩,[],T.sites 199⟩
def dq (d:Int)(t:qX)(t2:Int)(t3:Int)(t4:Int)(t5:qX)(trace:List (Int×Unit)):Option (List (Int×Unit)):=
 LL T B lf 199 1 ⟨⟨29,[(13,aQ t3),(12,aQ t2),(11, .rv (.cv ⟨.slice (.st yC),t⟩)),(3,aQ d),(1, .box 1 0),(0, .Lo)],gl⟩,[],[(1, .cells [⟨.int .i64,t4⟩,⟨.slice (.st yC),t5⟩])],h0,⟨.slice (.pair (.int .i64) (.unit)),trace⟩,[],T.sites 199⟩
def sK (c:jY)(fh:H2):Option ((Nat×Gb×Int)×H2):=cu T B lf 100045 ((c,(),()),fh)
def qt (c:jY)(fh:H2):Option ((Nat×Gb×Int)×H2):=cu T B lf 100145 ((c,(),()),fh)
def iZ (c:jY)(fh:H2):Option ((Nat×Int×Int×Unit)×H2):=cu T B lf 100046 (((),c),fh)
def cW (out:Nat)(t:Int)(t2:Int)(row:H2)(bG:List Int)(e:Bool)(c:Int)(c2:qX)(w:Int)(w2:Int)(fh:H2):Option ((Nat×Int×Int×Unit)×H2):=
 LL T B lf 100046 0 ⟨⟨155,[(28,aQ t2),(27,aQ t),(8, .box 8 0),(7, .box 7 0),(5, .box 5 0),(4, .rv (.cv ⟨.ref 3,out⟩)),(3, .box 3 0),(2, .box 2 0)],gl⟩,[(7,⟨40, .pW (.st yT),row⟩),(8,⟨3, .int .i64,bG⟩)],[(2, .cells [⟨.fn,(197:Nat)⟩,⟨.bool,e⟩]),(3, .cells [⟨.int .i64,c⟩,⟨.slice (.st yC),c2⟩]),(5, .cells [⟨.int .i64,w⟩,⟨.int .i64,w2⟩]),(7, .own 7),(8, .own 8)],(hs [] [] [] fh [] [] [] [] [] []),⟨.unit,()⟩,[],T.sites 100046⟩
def br (out:Nat)(ai:Nat)(row:H2)(bG:List Int)(e:Bool)(c:Int)(c2:qX)(w:Int)(w2:Int)(fh:H2)(rest:List (Int×Unit)):Option ((Nat×Int×Int×Unit)×H2):=
 LL T B lf 100046 1 ⟨⟨155,[(8, .box 8 0),(7, .box 7 0),(5, .box 5 0),(4, .rv (.cv ⟨.ref 3,out⟩)),(3, .box 3 0),(2, .box 2 0)],[(10008, .box 8 0),(10007, .box 7 0),(10005, .box 5 0),(10004, .rv (.cv ⟨.ref 3,ai⟩)),(10003, .box 3 0),(10002, .box 2 0),(1000000000, .oT [⟨.fn,(197:Nat)⟩,⟨.bool,false⟩]),(1000000001, .oT [⟨.fn,(199:Nat)⟩,⟨.bool,true⟩])]⟩,[(7,⟨40, .pW (.st yT),row⟩),(8,⟨3, .int .i64,bG⟩)],[(2, .cells [⟨.fn,(197:Nat)⟩,⟨.bool,e⟩]),(3, .cells [⟨.int .i64,c⟩,⟨.slice (.st yC),c2⟩]),(5, .cells [⟨.int .i64,w⟩,⟨.int .i64,w2⟩]),(7, .own 7),(8, .own 8)],(hs [] [] [] fh [] [] [] [] [] []),⟨.unit,()⟩,[⟨[.int .i64],rest⟩],T.sites 100046⟩
def cX (out:Nat)(t:Int)(t2:Int)(t3:List Int)(w:Int)(w2:Int)(fh:H2):Option ((Nat×Int×Int×Unit)×H2):=
 LL T B lf 100046 3 ⟨⟨155,[(139,aQ t2),(138,aQ t),(137, .rv (.own 8)),(5, .box 5 0),(4, .rv (.cv ⟨.ref 3,out⟩))],gl⟩,[(8,⟨3, .int .i64,t3⟩)],[(5, .cells [⟨.int .i64,w⟩,⟨.int .i64,w2⟩])],(hs [] [] [] fh [] [] [] [] [] []),⟨.unit,()⟩,[],T.sites 100046⟩
def cY (j:Int)(x:b9)(low:Int)(Zk:Bool)(out:Nat)(row:H2)(bG:List Int)(e:Bool)(c:Int)(c2:qX)(w:Int)(w2:Int)(fh:H2)(rest:List (Int×Unit)):Option ((Nat×Int×Int×Unit)×H2):=
 LL T B lf 100046 2 ⟨⟨155,[(13, .rv (.cv ⟨.bool,Zk⟩)),(12,aQ low),(11, .rv (.cv ⟨.slice (.st yT),x⟩)),(10,aQ j),(8, .box 8 0),(7, .box 7 0),(5, .box 5 0),(3, .box 3 0)],[(10008, .box 8 0),(10007, .box 7 0),(10005, .box 5 0),(10004, .rv (.cv ⟨.ref 3,out⟩)),(10003, .box 3 0),(10002, .box 2 0),(1000000000, .oT [⟨.fn,(197:Nat)⟩,⟨.bool,false⟩]),(1000000001, .oT [⟨.fn,(199:Nat)⟩,⟨.bool,true⟩])]⟩,[(7,⟨40, .pW (.st yT),row⟩),(8,⟨3, .int .i64,bG⟩)],[(2, .cells [⟨.fn,(197:Nat)⟩,⟨.bool,e⟩]),(3, .cells [⟨.int .i64,c⟩,⟨.slice (.st yC),c2⟩]),(5, .cells [⟨.int .i64,w⟩,⟨.int .i64,w2⟩]),(7, .own 7),(8, .own 8)],(hs [] [] [] fh [] [] [] [] [] []),⟨.unit,()⟩,[⟨[.int .i64],rest⟩],T.sites 100046⟩
def dP (c:jY)(fh:H2):Option ((Nat×Int×Int×Unit)×H2):=cu T B lf 100146 (((),c),fh)
def cH (out:Nat)(t:Int)(t2:Int)(row:H2)(bG:List Int)(e:Bool)(c:Int)(c2:qX)(w:Int)(w2:Int)(fh:H2):Option ((Nat×Int×Int×Unit)×H2):=
 LL T B lf 100146 0 ⟨⟨155,[(28,aQ t2),(27,aQ t),(8, .box 8 0),(7, .box 7 0),(5, .box 5 0),(4, .rv (.cv ⟨.ref 3,out⟩)),(3, .box 3 0),(2, .box 2 0)],gl⟩,[(7,⟨40, .pW (.st yT),row⟩),(8,⟨3, .int .i64,bG⟩)],[(2, .cells [⟨.fn,(199:Nat)⟩,⟨.bool,e⟩]),(3, .cells [⟨.int .i64,c⟩,⟨.slice (.st yC),c2⟩]),(5, .cells [⟨.int .i64,w⟩,⟨.int .i64,w2⟩]),(7, .own 7),(8, .own 8)],(hs [] [] [] fh [] [] [] [] [] []),⟨.unit,()⟩,[],T.sites 100146⟩
def bm (out:Nat)(ai:Nat)(row:H2)(bG:List Int)(e:Bool)(c:Int)(c2:qX)(w:Int)(w2:Int)(fh:H2)(rest:List (Int×Unit)):Option ((Nat×Int×Int×Unit)×H2):=
 LL T B lf 100146 1 ⟨⟨155,[(8, .box 8 0),(7, .box 7 0),(5, .box 5 0),(4, .rv (.cv ⟨.ref 3,out⟩)),(3, .box 3 0),(2, .box 2 0)],[(10008, .box 8 0),(10007, .box 7 0),(10005, .box 5 0),(10004, .rv (.cv ⟨.ref 3,ai⟩)),(10003, .box 3 0),(10002, .box 2 0),(1000000000, .oT [⟨.fn,(197:Nat)⟩,⟨.bool,false⟩]),(1000000001, .oT [⟨.fn,(199:Nat)⟩,⟨.bool,true⟩])]⟩,[(7,⟨40, .pW (.st yT),row⟩),(8,⟨3, .int .i64,bG⟩)],[(2, .cells [⟨.fn,(199:Nat)⟩,⟨.bool,e⟩]),(3, .cells [⟨.int .i64,c⟩,⟨.slice (.st yC),c2⟩]),(5, .cells [⟨.int .i64,w⟩,⟨.int .i64,w2⟩]),(7, .own 7),(8, .own 8)],(hs [] [] [] fh [] [] [] [] [] []),⟨.unit,()⟩,[⟨[.int .i64],rest⟩],T.sites 100146⟩
def cI (out:Nat)(t:Int)(t2:Int)(t3:List Int)(w:Int)(w2:Int)(fh:H2):Option ((Nat×Int×Int×Unit)×H2):=
 LL T B lf 100146 3 ⟨⟨155,[(139,aQ t2),(138,aQ t),(137, .rv (.own 8)),(5, .box 5 0),(4, .rv (.cv ⟨.ref 3,out⟩))],gl⟩,[(8,⟨3, .int .i64,t3⟩)],[(5, .cells [⟨.int .i64,w⟩,⟨.int .i64,w2⟩])],(hs [] [] [] fh [] [] [] [] [] []),⟨.unit,()⟩,[],T.sites 100146⟩
def cJ (j:Int)(x:b9)(low:Int)(Zk:Bool)(out:Nat)(row:H2)(bG:List Int)(e:Bool)(c:Int)(c2:qX)(w:Int)(w2:Int)(fh:H2)(rest:List (Int×Unit)):Option ((Nat×Int×Int×Unit)×H2):=
 LL T B lf 100146 2 ⟨⟨155,[(13, .rv (.cv ⟨.bool,Zk⟩)),(12,aQ low),(11, .rv (.cv ⟨.slice (.st yT),x⟩)),(10,aQ j),(8, .box 8 0),(7, .box 7 0),(5, .box 5 0),(3, .box 3 0)],[(10008, .box 8 0),(10007, .box 7 0),(10005, .box 5 0),(10004, .rv (.cv ⟨.ref 3,out⟩)),(10003, .box 3 0),(10002, .box 2 0),(1000000000, .oT [⟨.fn,(197:Nat)⟩,⟨.bool,false⟩]),(1000000001, .oT [⟨.fn,(199:Nat)⟩,⟨.bool,true⟩])]⟩,[(7,⟨40, .pW (.st yT),row⟩),(8,⟨3, .int .i64,bG⟩)],[(2, .cells [⟨.fn,(199:Nat)⟩,⟨.bool,e⟩]),(3, .cells [⟨.int .i64,c⟩,⟨.slice (.st yC),c2⟩]),(5, .cells [⟨.int .i64,w⟩,⟨.int .i64,w2⟩]),(7, .own 7),(8, .own 8)],(hs [] [] [] fh [] [] [] [] [] []),⟨.unit,()⟩,[⟨[.int .i64],rest⟩],T.sites 100146⟩
def kp (x:b9)(n:Int)(aC:H4):Option ((Nat)×H4):=cu T B lf 102038 ((x,n),aC)
def dc (x:b9)(out:Nat)(i:Int)(aC:H4):Option ((Nat)×H4):=
 LL T B lf 102038 0 (ms 28 [(6,aQ i),(5, .rv (.cv ⟨.ref 4,out⟩)),(0, .rv (.cv ⟨.slice (.st yT),x⟩))] [] (hs [] [] [] [] aC [] [] [] [] []) 102038)
def aR (v:Nat)(aC:H4):Option b9:=cu T B lf 100040 (v,aC)
def bK (v:Nat)(i:Int)(out:b9)(aC:H4):Option b9:=
 LL T B lf 100040 0 ⟨⟨26,[(4,aQ i),(3, .rv (.own 3)),(0, .rv (.cv ⟨.ref 4,v⟩))],gl⟩,[(3,⟨44, .st yT,out⟩)],[],[⟨42, .st yC,0,true,([]:H0)⟩,⟨42, .st yR,0,true,([]:H1)⟩,⟨44, .st yT,0,true,([]:H2)⟩,⟨58, .st yT,0,true,([]:H2)⟩,⟨3, .int .i64,0,false,aC⟩,⟨95, .st (.pair yH (.pair (.ref 6) (.pair (.ref 4) (.pair (.ref 7) yT)))),1,true,([]:List (Option (List (jY×Nat×Nat×Nat×Int×Int×Unit))))⟩,⟨26, .pW (.int .i64),0,true,([]:List (Option H4))⟩,⟨4, .bool,0,true,([]:H7)⟩,⟨101, .st (.pair (.ref 4) (.pair (.str) (.unit))),0,true,([]:H8)⟩,⟨24, .st (.pair (.int .i64) (.pair (.slice (.st yC)) (.unit))),0,true,([]:H9)⟩],⟨.unit,()⟩,[],T.sites 100040⟩
def eg (s:b9)(f:Int):Option (Bool):=cu T B lf 100070 (s,f)
def eo (s:b9)(f:jY×zqC):Option (Bool):=cu T B lf 100071 (s,f)
def iE (s:b9)(f:Int):Option (Int):=cu T B lf 100109 (s,f)
def bL (s:b9)(f:Int)(t:Int)(t2:Int):Option (Int):=
 LL T B lf 100109 0 (ms 19 [(8,aQ t2),(7,aQ t),(1, .fn 71 [.oT [⟨.int .i64,f⟩]]),(0, .rv (.cv ⟨.slice (.st yT),s⟩))] [] h0 100109)
def iF (s:b9)(f:jY×zqC):Option (Int):=cu T B lf 100110 (s,f)
def bM (s:b9)(f:Int)(f2:qX)(f3:Int)(f4:ByteArray)(f5:b9)(t:Int)(t2:Int):Option (Int):=
 LL T B lf 100110 0 (ms 19 [(8,aQ t2),(7,aQ t),(1, .fn 72 [.oT [⟨.int .i64,f⟩,⟨.slice (.st yC),f2⟩], .oT [⟨.int .i64,f3⟩,⟨.str,f4⟩,⟨.slice (.st yT),f5⟩]]),(0, .rv (.cv ⟨.slice (.st yT),s⟩))] [] h0 100110)
end
end Go.Proofs.YtofjebmoebhiiaaGreatDoor.Ev
namespace Go.Proofs.YtofjebmoebhiiaaGreatDoor.Ev
open Go.Abs
noncomputable section
def rl (rm:af dG)(sL:af gr)(Uy:af ui)(BB:af lj)(Em:af eg)(En:af eo)(Uz:af uj)(Rc:af oW)(t:qX)(t2:Int)(t3:Int)(c:Int)(c2:qX)(last:Bool)(VN:List Int)(VO:Bool)(VP:List Int):Option (Int):=
 bif (decide (t3<t2)) then
  (idx t t3).bind fun v0=>
  (sL v0.2.1).bind fun r1=>
  bif (decide (v0.1<0)) then
   some 1
  else
   bif (decide (v0.1>4)) then
    some 1
   else
    bif (!r1.2) then
     some 1
    else
     (Uy v0.2.1).bind fun r2=>
     bif (!r2) then
      some 1
     else
      (BB c v0.2.2.1).bind fun r3=>
      bif (r3 != 0) then
       some r3
      else
       (Em v0.2.2.1 t3).bind fun r4=>
       bif r4 then
        some 7
       else
        (En v0.2.2.1 ((c,(c2,())),(v0.1,(v0.2.1,(v0.2.2.1,()))))).bind fun r5=>
        bif r5 then
         some 10
        else
         (Uz (c,(c2,())) v0.2.2.1).bind fun r6=>
         bif (decide ((r6.length:Int)>0)) then
          some 11
         else
          bif (decide (t3>0)) then
           (Rc ((r1.1.1.1,(r1.1.1.2.1,())),((r1.1.2.1.1,(r1.1.2.1.2.1,())),())) ((last,(VN,())),((VO,(VP,())),()))).bind fun r7=>
           bif (decide (r7<0)) then
            some 6
           else
            rm t t2 (IntKind.wrap .i64 (t3+1)) c c2 r1.1.1.1 r1.1.1.2.1 r1.1.2.1.1 r1.1.2.1.2.1
          else
           rm t t2 (IntKind.wrap .i64 (t3+1)) c c2 r1.1.1.1 r1.1.1.2.1 r1.1.2.1.1 r1.1.2.1.2.1
 else
  some 0
theorem vn (t t2 t3 c c2 last VN VO VP):dG t t2 t3 c c2 last VN VO VP=rl dG gr ui lj eg eo uj oW t t2 t3 c c2 last VN VO VP:=(l1 41 0 _).trans (by kernel_rfl)
def Eo (rm:af dG)(vo:af lO)(c:jY):Option (Int):=
 (vo c.1).bind fun r0=>
 bif (!r0) then
  some 8
 else
  bif (decide ((c.2.1.length:Int)>1024)) then
   some 3
  else
   rm c.2.1 (c.2.1.length:Int) 0 c.1 c.2.1 false ([]:List Int) false ([]:List Int)
theorem I0 (c):jz c=Eo dG lO c:=(e1 41 _).trans (by kernel_rfl)
def zJ (t:Int×Int×Unit)(t2:Int):Option (Bool):=
 some (decide (t.1≥t2))
theorem Fa (t t2):sG t t2=zJ t t2:=(e1 71 _).trans (by kernel_rfl)
def zK (t:Int×Int×Unit)(t2:jY)(t3:zqC):Option (Bool):=
 (idx t2.2.1 t.1).bind fun v0=>
 some (v0.1 != (IntKind.wrap .i64 (t3.1 - 1)))
theorem Fb (t t2 t3):sH t t2 t3=zK t t2 t3:=(e1 72 _).trans (by kernel_rfl)
def xM (vp:af fe)(nx:af iV)(t:b9)(t2:Int)(t3:Int)(out:b9)(c:Int)(c2:qX):Option b9:=
 bif (decide (t3<t2)) then
  (idx t t3).bind fun v0=>
  (idx c2 v0.1).bind fun v1=>
  (nx c out v0.2.1 v1.2.2.1).bind fun r2=>
  vp r2.1 t t2 (IntKind.wrap .i64 (t3+1)) c c2
 else
  some out
theorem DA (t t2 t3 out c c2):mD t t2 t3 out c c2=xM fe iV t t2 t3 out c c2:=(l1 73 0 _).trans (by kernel_rfl)
def lv (vp:af fe)(nx:af iV)(out:b9)(t:b9)(t2:Int)(t3:Int)(c:Int)(c2:qX):Option b9:=
 bif (decide (t3<t2)) then
  (idx t t3).bind fun v0=>
  (idx c2 v0.1).bind fun v1=>
  (nx c out v0.2.1 v1.2.2.1).bind fun r2=>
  vp r2.1 t t2 (IntKind.wrap .i64 (t3+1)) c c2
 else
  some out
theorem ny (out t t2 t3 c c2):fe out t t2 t3 c c2=lv fe iV out t t2 t3 c c2:=(l1 73 0 _).trans (by kernel_rfl)
def Ep (Pz:af mD)(c:jY)(x:b9):Option b9:=
 Pz x (x.length:Int) 0 ([]:b9) c.1 c.2.1
theorem I1 (c x):uj c x=Ep mD c x:=(e1 73 _).trans (by kernel_rfl)
end
end Go.Proofs.YtofjebmoebhiiaaGreatDoor.Ev
namespace Go.Proofs.YtofjebmoebhiiaaGreatDoor.Ev
open Go.Abs
noncomputable section
def th (zL:af jx)(zM:af ib)(sL:af gr)(Re:af oV)(PA:af mC)(last:Int)(t:Int)(t2:Int)(c:Int)(c2:qX)(t3:Int)(t4:Nat)(out:Int)(ai:Nat)(hp1:H1):Option (jY×Int):=
 bif (decide (t2<t)) then
  (idx c2 (IntKind.wrap .i64 (last - t2))).bind fun v0=>
  (sL v0.2.1).bind fun r1=>
  (Re ((r1.1.1.1,(r1.1.1.2.1,())),((r1.1.2.1.1,(r1.1.2.1.2.1,())),()))).bind fun r2=>
  (PA ((r2.1.1,(r2.1.2.1,())),((r2.2.1.1,(r2.2.1.2.1,())),()))).bind fun r3=>
  (ah hp1 ai).bind fun v4=>
  (idx v4 t2).bind fun _=>
  (ah hp1 ai).bind fun v5=>
  (v5[t2.toNat]?).bind fun v6=>
  let e7:H1:=(je hp1 ai (v5.set t2.toNat ((IntKind.wrap .i64 (4 - v0.1)),(v6.2.1,(v6.2.2.1,())))))
  (ah e7 ai).bind fun v8=>
  (idx v8 t2).bind fun _=>
  (ah e7 ai).bind fun v9=>
  (v9[t2.toNat]?).bind fun v10=>
  let Uv:H1:=(je e7 ai (v9.set t2.toNat (v10.1,(r3,(v10.2.2.1,())))))
  zL last t (IntKind.wrap .i64 (t2+1)) c c2 t3 t4 out ai Uv
 else
  zM last last c c2 t3 t4 out ai hp1
theorem xN (last t t2 c c2 t3 t4 out ai hp1):jx last t t2 c c2 t3 t4 out ai hp1=th jx ib gr oV mC last t t2 c c2 t3 t4 out ai hp1:=(l1 18 0 _).trans (by kernel_rfl)
def Hq (Rf:af sF)(last:Int)(k:Int)(c:Int)(c2:qX)(t:Int)(t2:Nat)(out:Int)(ai:Nat)(hp1:H1):Option (jY×Int):=
 bif (decide (k≥0)) then
  (idx c2 k).bind fun v0=>
  Rf last k v0.2.2.1 (v0.2.2.1.length:Int) 0 c c2 t t2 out ai hp1
 else
  (Py (typed (hs [] hp1 [] [] [] [] [] [] [] []) yH (.rv (.agg [⟨.int .i64,out⟩,⟨.ref 1,ai⟩]))) (some 0)).bind fun v1=>
  some v1
theorem PB (last k c c2 t t2 out ai hp1):ib last k c c2 t t2 out ai hp1=Hq sF last k c c2 t t2 out ai hp1:=(l1 18 1 _).trans (by kernel_rfl)
def Hr (mK:af eY)(zM:af ib)(last:Int)(k:Int)(t:b9)(t2:Int)(t3:Int)(c:Int)(c2:qX)(t4:Int)(t5:Nat)(out:Int)(ai:Nat)(hp1:H1):Option (jY×Int):=
 bif (decide (t3<t2)) then
  (idx t t3).bind fun v0=>
  (ah hp1 ai).bind fun v1=>
  (idx v1 (IntKind.wrap .i64 (last - v0.1))).bind fun _=>
  (ah hp1 ai).bind fun v2=>
  (v2[(IntKind.wrap .i64 (last - v0.1)).toNat]?).bind fun v3=>
  let e4:b9:=([((IntKind.wrap .i64 (last - k)),(v0.2.1,()))]:b9)
  (ah ([]:H2) v3.2.2.1).bind fun v5=>
  bif (aD 16 2 v5.length 1) then
  let e6:H2:=((dF ([]:H2) v3.2.2.1)++[some (v5++e4)])
  let e7:Nat:=((dF ([]:H2) v3.2.2.1).length+1:Nat)
  (ah hp1 ai).bind fun v8=>
  (v8[(IntKind.wrap .i64 (last - v0.1)).toNat]?).bind fun v9=>
  let Y8:H1:=(je hp1 ai (v8.set (IntKind.wrap .i64 (last - v0.1)).toNat (v9.1,(v9.2.1,(e7,())))))
  mK last k t t2 (IntKind.wrap .i64 (t3+1)) c c2 t4 t5 out ai Y8 e6
  else none
 else
  zM last (IntKind.wrap .i64 (k - 1)) c c2 t4 t5 out ai hp1
theorem PC (last k t t2 t3 c c2 t4 t5 out ai hp1):sF last k t t2 t3 c c2 t4 t5 out ai hp1=Hr eY ib last k t t2 t3 c c2 t4 t5 out ai hp1:=(l1 18 2 _).trans (by kernel_rfl)
def rq (mK:af eY)(PD:af iz)(last:Int)(k:Int)(t:b9)(t2:Int)(t3:Int)(c:Int)(c2:qX)(t4:Int)(t5:Nat)(out:Int)(ai:Nat)(hp1:H1)(hp2:H2):Option (jY×Int):=
 bif (decide (t3<t2)) then
  (idx t t3).bind fun v0=>
  (ah hp1 ai).bind fun v1=>
  (idx v1 (IntKind.wrap .i64 (last - v0.1))).bind fun _=>
  (ah hp1 ai).bind fun v2=>
  (v2[(IntKind.wrap .i64 (last - v0.1)).toNat]?).bind fun v3=>
  let e4:b9:=([((IntKind.wrap .i64 (last - k)),(v0.2.1,()))]:b9)
  (ah hp2 v3.2.2.1).bind fun v5=>
  bif (aD 16 2 v5.length 1) then
  (ah hp1 ai).bind fun v6=>
  (v6[(IntKind.wrap .i64 (last - v0.1)).toNat]?).bind fun v7=>
  let e8:H1:=(je hp1 ai (v6.set (IntKind.wrap .i64 (last - v0.1)).toNat (v7.1,(v7.2.1,(((dF hp2 v3.2.2.1).length+1:Nat),())))))
  mK last k t t2 (IntKind.wrap .i64 (t3+1)) c c2 t4 t5 out ai e8 ((dF hp2 v3.2.2.1)++[some (v5++e4)])
  else none
 else
  PD last (IntKind.wrap .i64 (k - 1)) c c2 t4 t5 out ai hp1 hp2
theorem vq (last k t t2 t3 c c2 t4 t5 out ai hp1 hp2):eY last k t t2 t3 c c2 t4 t5 out ai hp1 hp2=rq eY iz last k t t2 t3 c c2 t4 t5 out ai hp1 hp2:=(l1 18 2 _).trans (by kernel_rfl)
def ry (mK:af eY)(last:Int)(k:Int)(c:Int)(c2:qX)(t:Int)(t2:Nat)(out:Int)(ai:Nat)(hp1:H1)(hp2:H2):Option (jY×Int):=
 bif (decide (k≥0)) then
  (idx c2 k).bind fun v0=>
  mK last k v0.2.2.1 (v0.2.2.1.length:Int) 0 c c2 t t2 out ai hp1 hp2
 else
  (Py (typed (hs [] hp1 hp2 [] [] [] [] [] [] []) yH (.rv (.agg [⟨.int .i64,out⟩,⟨.ref 1,ai⟩]))) (some 0)).bind fun v1=>
  some v1
theorem vr (last k c c2 t t2 out ai hp1 hp2):iz last k c c2 t t2 out ai hp1 hp2=ry eY last k c c2 t t2 out ai hp1 hp2:=(l1 18 1 _).trans (by kernel_rfl)
def GK (zL:af jx)(sM:af jz)(c:jY):Option (jY×Int):=
 (sM (c.1,(c.2.1,()))).bind fun r0=>
 bif (r0 != 0) then
  (Py (typed h0 yH (.rv (.agg [⟨.int .i64,(0:Int)⟩,⟨.ref 0,(0:Nat)⟩]))) (some r0)).bind fun v1=>
  some v1
 else
  let e2:Int:=(IntKind.wrap .i64 ((c.2.1.length:Int) - 1))
  bif (ir 48 (c.2.1.length:Int) (c.2.1.length:Int)) then
  let e3:H1:=(([]:H1)++[some (List.replicate (c.2.1.length:Int).toNat (0,(ByteArray.empty,((0:Nat),()))))])
  let e4:Nat:=(([]:H1).length+1:Nat)
  (ah e3 e4).bind fun v5=>
  zL e2 (v5.length:Int) 0 c.1 c.2.1 0 (0:Nat) c.1 e4 e3
  else none
theorem LA (c):lN c=GK jx jz c:=(e1 18 _).trans (by kernel_rfl)
def Fc (Rg:af sK)(c:jY):Option (b9×Gb×Int):=
 (Rg (c.1,(c.2.1,())) ([]:H2)).bind fun r0=>
 (Py (typed (hs [] [] [] r0.2 [] [] [] [] [] []) (.slice (.st yT)) (.rv (.cv ⟨.ref 3,r0.1.1⟩))) (Py (some (r0.1.2.1.1,(r0.1.2.1.2.1,()))) (some r0.1.2.2))).bind fun v1=>
 some v1
theorem NZ (c):qp c=Fc sK c:=(e1 20 _).trans (by kernel_rfl)
def LB (PE:af qt)(c:jY):Option (b9×Gb×Int):=
 (PE (c.1,(c.2.1,())) ([]:H2)).bind fun r0=>
 (Py (typed (hs [] [] [] r0.2 [] [] [] [] [] []) (.slice (.st yT)) (.rv (.cv ⟨.ref 3,r0.1.1⟩))) (Py (some (r0.1.2.1.1,(r0.1.2.1.2.1,()))) (some r0.1.2.2))).bind fun v1=>
 some v1
theorem Th (c):yX c=LB qt c:=(e1 24 _).trans (by kernel_rfl)
def wV (kq:af eC)(N0:af slices_SortFunc)(l:Nat)(last:Int)(t:Nat)(t2:Int)(t3:Int)(t4:Int)(t5:Int)(w:Int)(w2:Int)(fh:H2):Option (b9×Gb×Int):=
 bif (decide (t3<t2)) then
  (ah fh t).bind fun v0=>
  (idx v0 t3).bind fun _=>
  (ah fh t).bind fun v1=>
  (v1[t3.toNat]?).bind fun v2=>
  (ah fh l).bind fun v3=>
  (idx v3 t3).bind fun _=>
  (ah fh l).bind fun v4=>
  (v4[t3.toNat]?).bind fun v5=>
  let e6:H2:=(je fh l (v4.set t3.toNat ((IntKind.wrap .i64 (last - v2.2.1)),((IntKind.wrap .i64 (last - v2.1)),()))))
  bif (decide (v2.2.1<0)) then
   (ah e6 l).bind fun v7=>
   (idx v7 t3).bind fun _=>
   (ah e6 l).bind fun v8=>
   (v8[t3.toNat]?).bind fun v9=>
   let Y8:H2:=(je e6 l (v8.set t3.toNat ((IntKind.wrap .i64 (last - v2.1)),((-1),()))))
   kq l last t t2 (IntKind.wrap .i64 (t3+1)) t4 t5 w w2 Y8
  else
   kq l last t t2 (IntKind.wrap .i64 (t3+1)) t4 t5 w w2 e6
 else
  (N0 l fh).bind fun r11=>
  (Py (typed (hs [] [] [] r11.2 [] [] [] [] [] []) (.slice (.st yT)) (.rv (.cv ⟨.ref 3,l⟩))) (Py (some (w,(w2,()))) (some 0))).bind fun v12=>
  some v12
theorem GL (l last t t2 t3 t4 t5 w w2 fh):eC l last t t2 t3 t4 t5 w w2 fh=wV eC slices_SortFunc l last t t2 t3 t4 t5 w w2 fh:=(l1 26 0 _).trans (by kernel_rfl)
def BC (kq:af eC)(rz:af lN)(nz:af dP)(c:jY):Option (b9×Gb×Int):=
 (rz (c.1,(c.2.1,()))).bind fun r0=>
 bif (r0.2 != 0) then
  some (([]:b9),(0,(0,())),r0.2)
 else
  (nz (r0.1.1,(r0.1.2.1,())) ([]:H2)).bind fun r1=>
  let e2:Int:=(IntKind.wrap .i64 ((c.2.1.length:Int) - 1))
  (ah r1.2 r1.1.1).bind fun v3=>
  kq r1.1.1 e2 r1.1.1 (v3.length:Int) 0 0 0 r1.1.2.1 r1.1.2.2.1 r1.2
theorem KC (c):mB c=BC eC lN dP c:=(e1 26 _).trans (by kernel_rfl)
def DB (c:jY):Option jY:=
 some (c.1,(c.2.1,()))
theorem Mp (c):oO c=DB c:=(e1 196 _).trans (by kernel_rfl)
def vt (nA:af dO)(t:Int)(t2:Int)(trace:List (Int×Unit)):Option (List (Int×Unit)):=
 bif (decide (t2<t)) then
  nA t (IntKind.wrap .i64 (t2+1)) (trace++[(t2,())])
 else
  some trace
theorem Fe (t t2 trace):dO t t2 trace=vt dO t t2 trace:=(l1 197 0 _).trans (by kernel_rfl)
def Aj (nA:af dO)(t:jY):Option (List (Int×Unit)):=
 nA (t.2.1.length:Int) 0 ([]:List (Int×Unit))
theorem I2 (t):lu t=Aj dO t:=(e1 197 _).trans (by kernel_rfl)
def BD (c:jY):Option jY:=
 some (c.1,(c.2.1,()))
theorem KD (c):mJ c=BD c:=(e1 198 _).trans (by kernel_rfl)
def ur (iN:af dq)(d:Int)(t:Int)(t2:qX)(trace:List (Int×Unit)):Option (List (Int×Unit)):=
 bif (decide (d≥0)) then
  iN d t2 (t2.length:Int) 0 t t2 trace
 else
  some trace
theorem Er (d t t2 trace):dp d t t2 trace=ur dq d t t2 trace:=(l1 199 0 _).trans (by kernel_rfl)
def uv (iN:af dq)(mL:af dp)(d:Int)(t:qX)(t2:Int)(t3:Int)(t4:Int)(t5:qX)(trace:List (Int×Unit)):Option (List (Int×Unit)):=
 bif (decide (t3<t2)) then
  (idx t t3).bind fun v0=>
  bif (v0.1==d) then
   iN d t t2 (IntKind.wrap .i64 (t3+1)) t4 t5 (trace++[(t3,())])
  else
   iN d t t2 (IntKind.wrap .i64 (t3+1)) t4 t5 trace
 else
  mL (IntKind.wrap .i64 (d - 1)) t4 t5 trace
theorem Es (d t t2 t3 t4 t5 trace):dq d t t2 t3 t4 t5 trace=uv dq dp d t t2 t3 t4 t5 trace:=(l1 199 1 _).trans (by kernel_rfl)
def yZ (mL:af dp)(t:jY):Option (List (Int×Unit)):=
 mL 4 t.1 t.2.1 ([]:List (Int×Unit))
theorem HS (t):j8 t=yZ dp t:=(e1 199 _).trans (by kernel_rfl)
def Hs (sM:af jz)(HU:af iZ)(c:jY)(fh:H2):Option ((Nat×Gb×Int)×H2):=
 (sM (c.1,(c.2.1,()))).bind fun r0=>
 bif (r0 != 0) then
  some (((0:Nat),(0,(0,())),r0),fh)
 else
  (HU (c.1,(c.2.1,())) fh).bind fun r1=>
  some ((r1.1.1,(r1.1.2.1,(r1.1.2.2.1,())),(0:Int)),r1.2)
theorem PF (c fh):sK c fh=Hs jz iZ c fh:=(e1 100045 _).trans (by kernel_rfl)
def Ff (sM:af jz)(nz:af dP)(c:jY)(fh:H2):Option ((Nat×Gb×Int)×H2):=
 (sM (c.1,(c.2.1,()))).bind fun r0=>
 bif (r0 != 0) then
  some (((0:Nat),(0,(0,())),r0),fh)
 else
  (nz (c.1,(c.2.1,())) fh).bind fun r1=>
  some ((r1.1.1,(r1.1.2.1,(r1.1.2.2.1,())),(0:Int)),r1.2)
theorem N1 (c fh):qt c fh=Ff jz dP c fh:=(e1 100145 _).trans (by kernel_rfl)
def sN (lP:af cW)(aO:af br)(N2:af oO)(KE:af lu)(out:Nat)(t:Int)(t2:Int)(row:H2)(bG:List Int)(e:Bool)(c:Int)(c2:qX)(w:Int)(w2:Int)(fh:H2):Option ((Nat×Int×Int×Unit)×H2):=
 bif (decide (t2<t)) then
  (idx bG t2).bind fun _=>
  (bG[t2.toNat]?).bind fun v0=>
  lP out t (IntKind.wrap .i64 (t2+1)) row (bG.set t2.toNat (-2)) e c c2 w w2 fh
 else
  (N2 (c,(c2,()))).bind fun r1=>
  (KE (r1.1,(r1.2.1,()))).bind fun r2=>
  aO out out row bG e c c2 w w2 fh r2
theorem C8 (out t t2 row bG e c c2 w w2 fh):cW out t t2 row bG e c c2 w w2 fh=sN cW br oO lu out t t2 row bG e c c2 w w2 fh:=(l1 100046 0 _).trans (by kernel_rfl)
def sO (ic:af cX)(aO:af br)(ie:af cY)(qu:af rh)(jg:af j5)(out:Nat)(ai:Nat)(row:H2)(bG:List Int)(e:Bool)(c:Int)(c2:qX)(w:Int)(w2:Int)(fh:H2)(rest:List (Int×Unit)):Option ((Nat×Int×Int×Unit)×H2):=
 match rest with
 | []=>ic out (bG.length:Int) 0 bG w w2 fh
 |x0::x0s=>
  bif e then
   (idx row x0.1).bind fun _=>
   (row[x0.1.toNat]?).bind fun v1=>
   bif (!(Option.isNone v1)) then
    aO ai ai row bG e c c2 w (IntKind.wrap .i64 (w2+1)) fh x0s
   else
    (idx c2 x0.1).bind fun v2=>
    (qu v2.2.2.1).bind fun r3=>
    (jg r3).bind fun r4=>
    ie x0.1 r3 r4.1 r4.2 ai row bG e c c2 w w2 fh x0s
  else
   (idx c2 x0.1).bind fun v5=>
   (qu v5.2.2.1).bind fun r6=>
   (jg r6).bind fun r7=>
   ie x0.1 r6 r7.1 r7.2 ai row bG e c c2 w w2 fh x0s
theorem C9 (out ai row bG e c c2 w w2 fh rest):br out ai row bG e c c2 w w2 fh rest=sO cX br cY rh j5 out ai row bG e c c2 w w2 fh rest:=(l1 100046 1 _).trans (by kernel_rfl)
def sP (ic:af cX)(out:Nat)(t:Int)(t2:Int)(t3:List Int)(w:Int)(w2:Int)(fh:H2):Option ((Nat×Int×Int×Unit)×H2):=
 bif (decide (t2<t)) then
  (idx t3 t2).bind fun _=>
  (t3[t2.toNat]?).bind fun v0=>
  bif (decide (v0>(-2))) then
   (ah fh out).bind fun v1=>
   bif (aD 16 2 v1.length 1) then
   let e2:H2:=((dF fh out)++[some (v1++([(t2,(v0,()))]:b9))])
   ic ((dF fh out).length+1:Nat) t (IntKind.wrap .i64 (t2+1)) t3 w w2 e2
   else none
  else
   ic out t (IntKind.wrap .i64 (t2+1)) t3 w w2 fh
 else
  some ((out,(w,(w2,()))),fh)
theorem Da (out t t2 t3 w w2 fh):cX out t t2 t3 w w2 fh=sP cX out t t2 t3 w w2 fh:=(l1 100046 3 _).trans (by kernel_rfl)
def sQ (ie:af cY)(aO:af br)(Mq:af Bz)(BE:af sI)(nx:af iV)(jg:af j5)(j:Int)(x:b9)(low:Int)(Zk:Bool)(out:Nat)(row:H2)(bG:List Int)(e:Bool)(c:Int)(c2:qX)(w:Int)(w2:Int)(fh:H2)(rest:List (Int×Unit)):Option ((Nat×Int×Int×Unit)×H2):=
 bif Zk then
  (idx row low).bind fun _=>
  (row[low.toNat]?).bind fun v0=>
  bif (!(Option.isNone v0)) then
   (idx row low).bind fun _=>
   (row[low.toNat]?).bind fun v1=>
   let e2:Int:=(IntKind.wrap .i64 (((lst v1).length:Int) - 1))
   (idx (lst v1) e2).bind fun v3=>
   (Mq c v3.2.1).bind fun r4=>
   let e5:Int:=(IntKind.wrap .i64 ((x.length:Int) - 1))
   (idx x e5).bind fun v6=>
   let e7:Int:=(IntKind.wrap .i64 ((IntKind.wrap .i64 (0 - v6.2.1))*r4.1))
   (BE c e7).bind fun r8=>
   (nx c x r8 (lst v1)).bind fun r9=>
   (jg r9.1).bind fun Np=>
   ie j r9.1 Np.1 Np.2 out row bG e c c2 (IntKind.wrap .i64 (w+1)) w2 fh rest
  else
   bif Zk then
    (idx row low).bind fun _=>
    (row[low.toNat]?).bind fun v11=>
    (yL [] (.pW (.st yT)) [⟨.slice (.st yT),x⟩]).bind fun v12=>
    (idx bG low).bind fun _=>
    (bG[low.toNat]?).bind fun v13=>
    aO out out (row.set low.toNat v12) (bG.set low.toNat j) e c c2 w w2 fh rest
   else
    (idx bG j).bind fun _=>
    (bG[j.toNat]?).bind fun v14=>
    bif (v14==(-2)) then
     (idx bG j).bind fun _=>
     (bG[j.toNat]?).bind fun v15=>
     aO out out row (bG.set j.toNat (-1)) e c c2 w w2 fh rest
    else
     aO out out row bG e c c2 w w2 fh rest
 else
  bif Zk then
   (idx row low).bind fun _=>
   (row[low.toNat]?).bind fun v16=>
   (yL [] (.pW (.st yT)) [⟨.slice (.st yT),x⟩]).bind fun v17=>
   (idx bG low).bind fun _=>
   (bG[low.toNat]?).bind fun v18=>
   aO out out (row.set low.toNat v17) (bG.set low.toNat j) e c c2 w w2 fh rest
  else
   (idx bG j).bind fun _=>
   (bG[j.toNat]?).bind fun v19=>
   bif (v19==(-2)) then
    (idx bG j).bind fun _=>
    (bG[j.toNat]?).bind fun v20=>
    aO out out row (bG.set j.toNat (-1)) e c c2 w w2 fh rest
   else
    aO out out row bG e c c2 w w2 fh rest
theorem Db (j x low Zk out row bG e c c2 w w2 fh rest):cY j x low Zk out row bG e c c2 w w2 fh rest=sQ cY br Bz sI iV j5 j x low Zk out row bG e c c2 w w2 fh rest:=(l1 100046 2 _).trans (by kernel_rfl)
def wW (lP:af cW)(c:jY)(fh:H2):Option ((Nat×Int×Int×Unit)×H2):=
 bif (ir 24 (c.2.1.length:Int) (c.2.1.length:Int)) then
 let e0:H2:=(List.replicate (c.2.1.length:Int).toNat (none:Option b9))
 bif (ir 8 (c.2.1.length:Int) (c.2.1.length:Int)) then
 let e1:List Int:=(List.replicate (c.2.1.length:Int).toNat 0)
 lP (0:Nat) (e1.length:Int) 0 e0 e1 false c.1 c.2.1 0 0 fh
 else none
 else none
theorem GM (c fh):iZ c fh=wW cW c fh:=(e1 100046 _).trans (by kernel_rfl)
def rG (kQ:af cH)(aJ:af bm)(Mr:af mJ)(I3:af j8)(out:Nat)(t:Int)(t2:Int)(row:H2)(bG:List Int)(e:Bool)(c:Int)(c2:qX)(w:Int)(w2:Int)(fh:H2):Option ((Nat×Int×Int×Unit)×H2):=
 bif (decide (t2<t)) then
  (idx bG t2).bind fun _=>
  (bG[t2.toNat]?).bind fun v0=>
  kQ out t (IntKind.wrap .i64 (t2+1)) row (bG.set t2.toNat (-2)) e c c2 w w2 fh
 else
  (Mr (c,(c2,()))).bind fun r1=>
  (I3 (r1.1,(r1.2.1,()))).bind fun r2=>
  aJ out out row bG e c c2 w w2 fh r2
theorem BF (out t t2 row bG e c c2 w w2 fh):cH out t t2 row bG e c c2 w w2 fh=rG cH bm mJ j8 out t t2 row bG e c c2 w w2 fh:=(l1 100146 0 _).trans (by kernel_rfl)
def rH (gE:af cI)(aJ:af bm)(gF:af cJ)(qu:af rh)(jg:af j5)(out:Nat)(ai:Nat)(row:H2)(bG:List Int)(e:Bool)(c:Int)(c2:qX)(w:Int)(w2:Int)(fh:H2)(rest:List (Int×Unit)):Option ((Nat×Int×Int×Unit)×H2):=
 match rest with
 | []=>gE out (bG.length:Int) 0 bG w w2 fh
 |x0::x0s=>
  bif e then
   (idx row x0.1).bind fun _=>
   (row[x0.1.toNat]?).bind fun v1=>
   bif (!(Option.isNone v1)) then
    aJ ai ai row bG e c c2 w (IntKind.wrap .i64 (w2+1)) fh x0s
   else
    (idx c2 x0.1).bind fun v2=>
    (qu v2.2.2.1).bind fun r3=>
    (jg r3).bind fun r4=>
    gF x0.1 r3 r4.1 r4.2 ai row bG e c c2 w w2 fh x0s
  else
   (idx c2 x0.1).bind fun v5=>
   (qu v5.2.2.1).bind fun r6=>
   (jg r6).bind fun r7=>
   gF x0.1 r6 r7.1 r7.2 ai row bG e c c2 w w2 fh x0s
theorem BG (out ai row bG e c c2 w w2 fh rest):bm out ai row bG e c c2 w w2 fh rest=rH cI bm cJ rh j5 out ai row bG e c c2 w w2 fh rest:=(l1 100146 1 _).trans (by kernel_rfl)
def rI (gE:af cI)(out:Nat)(t:Int)(t2:Int)(t3:List Int)(w:Int)(w2:Int)(fh:H2):Option ((Nat×Int×Int×Unit)×H2):=
 bif (decide (t2<t)) then
  (idx t3 t2).bind fun _=>
  (t3[t2.toNat]?).bind fun v0=>
  bif (decide (v0>(-2))) then
   (ah fh out).bind fun v1=>
   bif (aD 16 2 v1.length 1) then
   let e2:H2:=((dF fh out)++[some (v1++([(t2,(v0,()))]:b9))])
   gE ((dF fh out).length+1:Nat) t (IntKind.wrap .i64 (t2+1)) t3 w w2 e2
   else none
  else
   gE out t (IntKind.wrap .i64 (t2+1)) t3 w w2 fh
 else
  some ((out,(w,(w2,()))),fh)
theorem BH (out t t2 t3 w w2 fh):cI out t t2 t3 w w2 fh=rI cI out t t2 t3 w w2 fh:=(l1 100146 3 _).trans (by kernel_rfl)
def rJ (gF:af cJ)(aJ:af bm)(Mq:af Bz)(BE:af sI)(nx:af iV)(jg:af j5)(j:Int)(x:b9)(low:Int)(Zk:Bool)(out:Nat)(row:H2)(bG:List Int)(e:Bool)(c:Int)(c2:qX)(w:Int)(w2:Int)(fh:H2)(rest:List (Int×Unit)):Option ((Nat×Int×Int×Unit)×H2):=
 bif Zk then
  (idx row low).bind fun _=>
  (row[low.toNat]?).bind fun v0=>
  bif (!(Option.isNone v0)) then
   (idx row low).bind fun _=>
   (row[low.toNat]?).bind fun v1=>
   let e2:Int:=(IntKind.wrap .i64 (((lst v1).length:Int) - 1))
   (idx (lst v1) e2).bind fun v3=>
   (Mq c v3.2.1).bind fun r4=>
   let e5:Int:=(IntKind.wrap .i64 ((x.length:Int) - 1))
   (idx x e5).bind fun v6=>
   let e7:Int:=(IntKind.wrap .i64 ((IntKind.wrap .i64 (0 - v6.2.1))*r4.1))
   (BE c e7).bind fun r8=>
   (nx c x r8 (lst v1)).bind fun r9=>
   (jg r9.1).bind fun Np=>
   gF j r9.1 Np.1 Np.2 out row bG e c c2 (IntKind.wrap .i64 (w+1)) w2 fh rest
  else
   bif Zk then
    (idx row low).bind fun _=>
    (row[low.toNat]?).bind fun v11=>
    (yL [] (.pW (.st yT)) [⟨.slice (.st yT),x⟩]).bind fun v12=>
    (idx bG low).bind fun _=>
    (bG[low.toNat]?).bind fun v13=>
    aJ out out (row.set low.toNat v12) (bG.set low.toNat j) e c c2 w w2 fh rest
   else
    (idx bG j).bind fun _=>
    (bG[j.toNat]?).bind fun v14=>
    bif (v14==(-2)) then
     (idx bG j).bind fun _=>
     (bG[j.toNat]?).bind fun v15=>
     aJ out out row (bG.set j.toNat (-1)) e c c2 w w2 fh rest
    else
     aJ out out row bG e c c2 w w2 fh rest
 else
  bif Zk then
   (idx row low).bind fun _=>
   (row[low.toNat]?).bind fun v16=>
   (yL [] (.pW (.st yT)) [⟨.slice (.st yT),x⟩]).bind fun v17=>
   (idx bG low).bind fun _=>
   (bG[low.toNat]?).bind fun v18=>
   aJ out out (row.set low.toNat v17) (bG.set low.toNat j) e c c2 w w2 fh rest
  else
   (idx bG j).bind fun _=>
   (bG[j.toNat]?).bind fun v19=>
   bif (v19==(-2)) then
    (idx bG j).bind fun _=>
    (bG[j.toNat]?).bind fun v20=>
    aJ out out row (bG.set j.toNat (-1)) e c c2 w w2 fh rest
   else
    aJ out out row bG e c c2 w w2 fh rest
theorem BI (j x low Zk out row bG e c c2 w w2 fh rest):cJ j x low Zk out row bG e c c2 w w2 fh rest=rJ cJ bm Bz sI iV j5 j x low Zk out row bG e c c2 w w2 fh rest:=(l1 100146 2 _).trans (by kernel_rfl)
def vu (kQ:af cH)(c:jY)(fh:H2):Option ((Nat×Int×Int×Unit)×H2):=
 bif (ir 24 (c.2.1.length:Int) (c.2.1.length:Int)) then
 let e0:H2:=(List.replicate (c.2.1.length:Int).toNat (none:Option b9))
 bif (ir 8 (c.2.1.length:Int) (c.2.1.length:Int)) then
 let e1:List Int:=(List.replicate (c.2.1.length:Int).toNat 0)
 kQ (0:Nat) (e1.length:Int) 0 e0 e1 true c.1 c.2.1 0 0 fh
 else none
 else none
theorem Fg (c fh):dP c fh=vu cH c fh:=(e1 100146 _).trans (by kernel_rfl)
end
end Go.Proofs.YtofjebmoebhiiaaGreatDoor.Ev
namespace Go.Proofs.YtofjebmoebhiiaaGreatDoor.Ev
open Go.Abs
noncomputable section
def qb (qc:af gu)(p:Int)(c:b9)(t:b9)(t2:Int)(t3:Int):Option (Int):=
 bif (decide (t3<t2)) then
  (idx t t3).bind fun v0=>
  bif (decide (v0.1<0)) then
   some 1
  else
   bif (decide (v0.1≥1024)) then
    some 1
   else
    bif (decide (v0.2.1<1)) then
     some 1
    else
     bif (decide (v0.2.1≥p)) then
      some 1
     else
      bif (decide (t3>0)) then
       (idx c (IntKind.wrap .i64 (t3 - 1))).bind fun v1=>
       bif (decide (v0.1≤v1.1)) then
        some 6
       else
        qc p c t t2 (IntKind.wrap .i64 (t3+1))
      else
       qc p c t t2 (IntKind.wrap .i64 (t3+1))
 else
  some 0
theorem tw (p c t t2 t3):gu p c t t2 t3=qb gu p c t t2 t3:=(l1 69 0 _).trans (by kernel_rfl)
def BJ (qc:af gu)(vo:af lO)(p:Int)(c:b9):Option (Int):=
 (vo p).bind fun r0=>
 bif (!r0) then
  some 8
 else
  qc p c c (c.length:Int) 0
theorem Ht (p c):lj p c=BJ gu lO p c:=(e1 69 _).trans (by kernel_rfl)
def N3 (c:b9):Option (Int×Bool):=
 bif ((c.length:Int)==0) then
  some (0,false)
 else
  let e0:Int:=(IntKind.wrap .i64 ((c.length:Int) - 1))
  (idx c e0).bind fun v1=>
  some (v1.1,true)
theorem UA (c):j5 c=N3 c:=(e1 85 _).trans (by kernel_rfl)
def GN (N4:af oM)(BE:af sI)(UB:af uo)(p:Int)(a:b9)(k:Int)(b:b9):Option (b9×Int):=
 (N4 p ([a,b]:List b9)).bind fun r0=>
 bif (r0 != 0) then
  some (([]:b9),r0)
 else
  (BE p k).bind fun r1=>
  (UB p a r1 b).bind fun r2=>
  some (r2,(0:Int))
theorem LC (p a k b):iV p a k b=GN oM sI uo p a k b:=(e1 87 _).trans (by kernel_rfl)
def iG (qv:af fi)(BB:af lj)(p:Int)(t:List b9)(t2:Int)(t3:Int):Option (Int):=
 bif (decide (t3<t2)) then
  (idx t t3).bind fun v0=>
  (BB p v0).bind fun r1=>
  bif (r1 != 0) then
   some r1
  else
   qv p t t2 (IntKind.wrap .i64 (t3+1))
 else
  some 0
theorem kr (p t t2 t3):fi p t t2 t3=iG fi lj p t t2 t3:=(l1 122 0 _).trans (by kernel_rfl)
def vv (qv:af fi)(p:Int)(l:List b9):Option (Int):=
 qv p l (l.length:Int) 0
theorem BK (p l):oM p l=vv fi p l:=(e1 122 _).trans (by kernel_rfl)
def rA (rB:af iC)(row:b9)(p:Int)(k:Int)(rest:List (Int×Gb×Unit)):Option b9:=
 match rest with
 | []=>some row
 |x0::x0s=>
  let e1:Int:=(IntKind.wrap .i64 (x0.2.1.1+(IntKind.wrap .i64 (k*x0.2.1.2.1))))
  bif (!(p==0)) then
  bif ((e1.tmod p) != 0) then
   let e2:b9:=([(x0.1,((e1.tmod p),()))]:b9)
   bif (aD 16 2 row.length 1) then
   rB (row++e2) p k x0s
   else none
  else
   rB row p k x0s
  else none
theorem vw (row p k rest):iC row p k rest=rA iC row p k rest:=(l1 123 0 _).trans (by kernel_rfl)
def Et (rB:af iC)(Rh:af sJ)(N5:af oN)(p:Int)(a:b9)(k:Int)(b:b9):Option b9:=
 (Rh a b).bind fun r0=>
 (N5 r0.1 r0.2).bind fun r1=>
 rB ([]:b9) p k r1
theorem I4 (p a k b):uo p a k b=Et iC sJ oN p a k b:=(e1 123 _).trans (by kernel_rfl)
def zN (a:b9)(b:b9):Option (b9×b9):=
 some (a,b)
theorem Fh (a b):sJ a b=zN a b:=(e1 155 _).trans (by kernel_rfl)
def cU (ar:af dN)(t:b9)(t2:b9)(trace:List (Int×Gb×Unit)):Option (List (Int×Gb×Unit)):=
 bif (decide ((t.length:Int)>0)) then
  bif ((t2.length:Int)==0) then
   (idx t 0).bind fun v0=>
   (idx t 0).bind fun v1=>
   bif (c6 t.length 1 (t.length:Int)) then
   let e2:List (Int×Gb×Unit):=(trace++[(v0.1,((v1.2.1,(0,())),()))])
   ar (cut t 1 (t.length:Int)) t2 e2
   else none
  else
   bif (decide ((t.length:Int)>0)) then
    (idx t 0).bind fun v3=>
    (idx t2 0).bind fun v4=>
    bif (decide (v3.1<v4.1)) then
     (idx t 0).bind fun v5=>
     (idx t 0).bind fun v6=>
     bif (c6 t.length 1 (t.length:Int)) then
     let e7:List (Int×Gb×Unit):=(trace++[(v5.1,((v6.2.1,(0,())),()))])
     ar (cut t 1 (t.length:Int)) t2 e7
     else none
    else
     bif ((t.length:Int)==0) then
      (idx t2 0).bind fun v8=>
      (idx t2 0).bind fun v9=>
      bif (c6 t2.length 1 (t2.length:Int)) then
      let Y8:List (Int×Gb×Unit):=(trace++[(v8.1,((0,(v9.2.1,())),()))])
      ar t (cut t2 1 (t2.length:Int)) Y8
      else none
     else
      (idx t2 0).bind fun v11=>
      (idx t 0).bind fun v12=>
      bif (decide (v11.1<v12.1)) then
       (idx t2 0).bind fun v13=>
       (idx t2 0).bind fun v14=>
       bif (c6 t2.length 1 (t2.length:Int)) then
       let e15:List (Int×Gb×Unit):=(trace++[(v13.1,((0,(v14.2.1,())),()))])
       ar t (cut t2 1 (t2.length:Int)) e15
       else none
      else
       (idx t 0).bind fun v16=>
       (idx t 0).bind fun v17=>
       (idx t2 0).bind fun v18=>
       bif (c6 t.length 1 (t.length:Int)) then
       bif (c6 t2.length 1 (t2.length:Int)) then
       let e19:List (Int×Gb×Unit):=(trace++[(v16.1,((v17.2.1,(v18.2.1,())),()))])
       ar (cut t 1 (t.length:Int)) (cut t2 1 (t2.length:Int)) e19
       else none
       else none
   else
    bif ((t.length:Int)==0) then
     (idx t2 0).bind fun v20=>
     (idx t2 0).bind fun v21=>
     bif (c6 t2.length 1 (t2.length:Int)) then
     let e22:List (Int×Gb×Unit):=(trace++[(v20.1,((0,(v21.2.1,())),()))])
     ar t (cut t2 1 (t2.length:Int)) e22
     else none
    else
     (idx t2 0).bind fun v23=>
     (idx t 0).bind fun v24=>
     bif (decide (v23.1<v24.1)) then
      (idx t2 0).bind fun v25=>
      (idx t2 0).bind fun v26=>
      bif (c6 t2.length 1 (t2.length:Int)) then
      let e27:List (Int×Gb×Unit):=(trace++[(v25.1,((0,(v26.2.1,())),()))])
      ar t (cut t2 1 (t2.length:Int)) e27
      else none
     else
      (idx t 0).bind fun v28=>
      (idx t 0).bind fun v29=>
      (idx t2 0).bind fun v30=>
      bif (c6 t.length 1 (t.length:Int)) then
      bif (c6 t2.length 1 (t2.length:Int)) then
      let e31:List (Int×Gb×Unit):=(trace++[(v28.1,((v29.2.1,(v30.2.1,())),()))])
      ar (cut t 1 (t.length:Int)) (cut t2 1 (t2.length:Int)) e31
      else none
      else none
 else
  bif (decide ((t2.length:Int)>0)) then
   bif ((t2.length:Int)==0) then
    (idx t 0).bind fun v32=>
    (idx t 0).bind fun v33=>
    bif (c6 t.length 1 (t.length:Int)) then
    let e34:List (Int×Gb×Unit):=(trace++[(v32.1,((v33.2.1,(0,())),()))])
    ar (cut t 1 (t.length:Int)) t2 e34
    else none
   else
    bif (decide ((t.length:Int)>0)) then
     (idx t 0).bind fun v35=>
     (idx t2 0).bind fun v36=>
     bif (decide (v35.1<v36.1)) then
      (idx t 0).bind fun v37=>
      (idx t 0).bind fun v38=>
      bif (c6 t.length 1 (t.length:Int)) then
      let e39:List (Int×Gb×Unit):=(trace++[(v37.1,((v38.2.1,(0,())),()))])
      ar (cut t 1 (t.length:Int)) t2 e39
      else none
     else
      bif ((t.length:Int)==0) then
       (idx t2 0).bind fun v40=>
       (idx t2 0).bind fun v41=>
       bif (c6 t2.length 1 (t2.length:Int)) then
       let e42:List (Int×Gb×Unit):=(trace++[(v40.1,((0,(v41.2.1,())),()))])
       ar t (cut t2 1 (t2.length:Int)) e42
       else none
      else
       (idx t2 0).bind fun v43=>
       (idx t 0).bind fun v44=>
       bif (decide (v43.1<v44.1)) then
        (idx t2 0).bind fun v45=>
        (idx t2 0).bind fun v46=>
        bif (c6 t2.length 1 (t2.length:Int)) then
        let e47:List (Int×Gb×Unit):=(trace++[(v45.1,((0,(v46.2.1,())),()))])
        ar t (cut t2 1 (t2.length:Int)) e47
        else none
       else
        (idx t 0).bind fun v48=>
        (idx t 0).bind fun v49=>
        (idx t2 0).bind fun v50=>
        bif (c6 t.length 1 (t.length:Int)) then
        bif (c6 t2.length 1 (t2.length:Int)) then
        let e51:List (Int×Gb×Unit):=(trace++[(v48.1,((v49.2.1,(v50.2.1,())),()))])
        ar (cut t 1 (t.length:Int)) (cut t2 1 (t2.length:Int)) e51
        else none
        else none
    else
     bif ((t.length:Int)==0) then
      (idx t2 0).bind fun v52=>
      (idx t2 0).bind fun v53=>
      bif (c6 t2.length 1 (t2.length:Int)) then
      let e54:List (Int×Gb×Unit):=(trace++[(v52.1,((0,(v53.2.1,())),()))])
      ar t (cut t2 1 (t2.length:Int)) e54
      else none
     else
      (idx t2 0).bind fun v55=>
      (idx t 0).bind fun v56=>
      bif (decide (v55.1<v56.1)) then
       (idx t2 0).bind fun v57=>
       (idx t2 0).bind fun v58=>
       bif (c6 t2.length 1 (t2.length:Int)) then
       let e59:List (Int×Gb×Unit):=(trace++[(v57.1,((0,(v58.2.1,())),()))])
       ar t (cut t2 1 (t2.length:Int)) e59
       else none
      else
       (idx t 0).bind fun v60=>
       (idx t 0).bind fun v61=>
       (idx t2 0).bind fun v62=>
       bif (c6 t.length 1 (t.length:Int)) then
       bif (c6 t2.length 1 (t2.length:Int)) then
       let e63:List (Int×Gb×Unit):=(trace++[(v60.1,((v61.2.1,(v62.2.1,())),()))])
       ar (cut t 1 (t.length:Int)) (cut t2 1 (t2.length:Int)) e63
       else none
       else none
  else
   some trace
theorem dr (t t2 trace):dN t t2 trace=cU dN t t2 trace:=(l1 171 0 _).trans (by kernel_rfl)
def vx (ar:af dN)(t:b9)(t2:b9):Option (List (Int×Gb×Unit)):=
 ar t t2 ([]:List (Int×Gb×Unit))
theorem BL (t t2):oN t t2=vx dN t t2:=(e1 171 _).trans (by kernel_rfl)
end
end Go.Proofs.YtofjebmoebhiiaaGreatDoor.Ev
namespace Go.Proofs.YtofjebmoebhiiaaGreatDoor.Ev
open Go.Abs
noncomputable section
def ti (oP:af jA)(p:Int)(t:Int):Option (Bool):=
 bif (decide (t<16)) then
  bif (decide (t>1)) then
   bif (!(t==0)) then
   bif ((p.tmod t)==0) then
    bif (p != t) then
     some false
    else
     oP p (IntKind.wrap .i64 (t+1))
   else
    oP p (IntKind.wrap .i64 (t+1))
   else none
  else
   oP p (IntKind.wrap .i64 (t+1))
 else
  bif (decide (p>1)) then
   some (decide (p≤251))
  else
   some false
theorem xO (p t):jA p t=ti jA p t:=(l1 67 0 _).trans (by kernel_rfl)
def GO (oP:af jA)(p:Int):Option (Bool):=
 oP p 0
theorem LD (p):lO p=GO jA p:=(e1 67 _).trans (by kernel_rfl)
def Ti (PG:af GJ)(lx:af dW)(I5:af j6)(p:Int)(a:Int):Option (Int×Int):=
 (PG p).bind fun r0=>
 bif (r0.2 != 0) then
  some (0,r0.2)
 else
  (lx r0.1 a).bind fun r1=>
  bif (r1==0) then
   some (0,(9:Int))
  else
   (I5 r0.1 a).bind fun r2=>
   some (r2,(0:Int))
theorem Zl (p a):Bz p a=Ti GJ dW j6 p a:=(e1 86 _).trans (by kernel_rfl)
def Ms (PG:af GJ)(lx:af dW)(p:Int)(a:Int):Option (Int):=
 (PG p).bind fun r0=>
 bif (r0.2 != 0) then
  some 0
 else
  (lx r0.1 a).bind fun r1=>
  some r1
theorem QG (p a):sI p a=Ms GJ dW p a:=(e1 88 _).trans (by kernel_rfl)
def PH (vo:af lO)(p:Int):Option (Int×Int):=
 (vo p).bind fun r0=>
 bif (!r0) then
  some (0,(8:Int))
 else
  some (p,(0:Int))
theorem Tj (p):GJ p=PH lO p:=(e1 119 _).trans (by kernel_rfl)
def vy (f:Int)(a:Int):Option (Int):=
 bif (!(f==0)) then
 bif (!(f==0)) then
 some ((IntKind.wrap .i64 ((a.tmod f)+f)).tmod f)
 else none
 else none
theorem BM (f a):dW f a=vy f a:=(e1 120 _).trans (by kernel_rfl)
def y3 (Mt:af mH)(f:Int)(a:Int):Option (Int):=
 (Mt f a (IntKind.wrap .i64 (f - 2))).bind fun r0=>
 some r0
theorem HV (f a):j6 f a=y3 mH f a:=(e1 121 _).trans (by kernel_rfl)
def wX (kt:af eH)(f:Int)(n:Int)(out:Int)(base:Int):Option (Int):=
 bif (decide (n>0)) then
  bif ((n.tmod 2)==1) then
   bif (!(f==0)) then
   bif (!(f==0)) then
   kt f (IntKind.wrap .i64 (n.tdiv 2)) ((IntKind.wrap .i64 (out*base)).tmod f) ((IntKind.wrap .i64 (base*base)).tmod f)
   else none
   else none
  else
   bif (!(f==0)) then
   kt f (IntKind.wrap .i64 (n.tdiv 2)) out ((IntKind.wrap .i64 (base*base)).tmod f)
   else none
 else
  some out
theorem GP (f n out base):eH f n out base=wX eH f n out base:=(l1 154 0 _).trans (by kernel_rfl)
def BN (kt:af eH)(lx:af dW)(f:Int)(a:Int)(n:Int):Option (Int):=
 (lx f a).bind fun r0=>
 kt f n 1 r0
theorem KF (f a n):mH f a n=BN eH dW f a n:=(e1 154 _).trans (by kernel_rfl)
end
end Go.Proofs.YtofjebmoebhiiaaGreatDoor.Ev
namespace Go.Proofs.YtofjebmoebhiiaaGreatDoor.Ev
open Go.Abs
noncomputable section
def yn (UC:af uk)(Tk:af E6)(sR:af xJ)(xP:af iB)(k8:af fJ)(Ri:af oX)(a:ByteArray):Option (((Bool×(List Int)×Unit)×(Bool×(List Int)×Unit)×Unit)×Bool):=
 (UC a (bs [47])).bind fun r0=>
 (Tk r0.1).bind fun r1=>
 bif (!r1.2) then
  (sR 1).bind fun r2=>
  some (((r1.1.1,(r1.1.2.1,())),((r2.1,(r2.2.1,())),())),r1.2)
 else
  bif (!r0.2.2) then
   (sR 1).bind fun r3=>
   some (((r1.1.1,(r1.1.2.1,())),((r3.1,(r3.2.1,())),())),r1.2)
  else
   (Tk r0.2.1).bind fun r4=>
   bif (!r4.2) then
    some (((false,(([]:List Int),())),((false,(([]:List Int),())),())),false)
   else
    (xP (r1.1.1,(r1.1.2.1,()))).bind fun r5=>
    bif (r5==0) then
     some (((false,(([]:List Int),())),((false,(([]:List Int),())),())),false)
    else
     (sR 1).bind fun r6=>
     (k8 (r4.1.1,(r4.1.2.1,())) (r6.1,(r6.2.1,()))).bind fun r7=>
     bif (decide (r7≤0)) then
      some (((false,(([]:List Int),())),((false,(([]:List Int),())),())),false)
     else
      (Ri (r1.1.1,(r1.1.2.1,())) (r4.1.1,(r4.1.2.1,()))).bind fun r8=>
      (sR 1).bind fun r9=>
      (k8 (r8.1,(r8.2.1,())) (r9.1,(r9.2.1,()))).bind fun Np=>
      bif (Np != 0) then
       some (((false,(([]:List Int),())),((false,(([]:List Int),())),())),false)
      else
       some (((r1.1.1,(r1.1.2.1,())),((r4.1.1,(r4.1.2.1,())),())),true)
theorem BO (a):gr a=yn uk E6 xJ iB fJ oX a:=(e1 42 _).trans (by kernel_rfl)
def zO (Rj:af oY)(a:(Bool×(List Int)×Unit)×(Bool×(List Int)×Unit)×Unit):Option ((Bool×(List Int)×Unit)×(Bool×(List Int)×Unit)×Unit):=
 (Rj (a.1.1,(a.1.2.1,()))).bind fun r0=>
 some ((r0.1,(r0.2.1,())),((a.2.1.1,(a.2.1.2.1,())),()))
theorem Fj (a):oV a=zO oY a:=(e1 43 _).trans (by kernel_rfl)
def xQ (tj:af jC)(sR:af xJ)(k8:af fJ)(xR:af mE)(a:(Bool×(List Int)×Unit)×(Bool×(List Int)×Unit)×Unit):Option (ByteArray):=
 (tj ((a.1.1,(a.1.2.1,())),((a.2.1.1,(a.2.1.2.1,())),()))).bind fun r0=>
 (sR 1).bind fun r1=>
 (k8 (r0.1,(r0.2.1,())) (r1.1,(r1.2.1,()))).bind fun r2=>
 bif (r2 != 0) then
  (xR (a.1.1,(a.1.2.1,()))).bind fun r3=>
  bif (Nat.ble (r3.size+(bs [47]).size) 9223372036854775807) then
  (xR (r0.1,(r0.2.1,()))).bind fun r4=>
  bif (Nat.ble ((r3++(bs [47])).size+r4.size) 9223372036854775807) then
  some ((r3++(bs [47]))++r4)
  else none
  else none
 else
  (xR (a.1.1,(a.1.2.1,()))).bind fun r5=>
  some r5
theorem DC (a):mC a=xQ jC xJ fJ mE a:=(e1 44 _).trans (by kernel_rfl)
def zP (tj:af jC)(Hu:af o5)(k8:af fJ)(a:(Bool×(List Int)×Unit)×(Bool×(List Int)×Unit)×Unit)(b:(Bool×(List Int)×Unit)×(Bool×(List Int)×Unit)×Unit):Option (Int):=
 (tj ((b.1.1,(b.1.2.1,())),((b.2.1.1,(b.2.1.2.1,())),()))).bind fun r0=>
 (Hu (a.1.1,(a.1.2.1,())) (r0.1,(r0.2.1,()))).bind fun r1=>
 (tj ((a.1.1,(a.1.2.1,())),((a.2.1.1,(a.2.1.2.1,())),()))).bind fun r2=>
 (Hu (b.1.1,(b.1.2.1,())) (r2.1,(r2.2.1,()))).bind fun r3=>
 (k8 (r1.1,(r1.2.1,())) (r3.1,(r3.2.1,()))).bind fun r4=>
 some r4
theorem Fk (a b):oW a b=zP jC o5 fJ a b:=(e1 74 _).trans (by kernel_rfl)
def yo (Eu:af np)(vz:af iW)(s:ByteArray)(neg:Bool)(Ek:Int)(d:List Int)(t:Bool)(t2:List Int):Option ((Bool×(List Int)×Unit)×Bool):=
 bif (decide (Ek>0)) then
  let e0:Int:=(bif decide ((IntKind.wrap .i64 (Ek - 9))>0) then (IntKind.wrap .i64 (Ek - 9)) else 0)
  bif (c6 s.size e0 Ek) then
  bif (Nat.ble (s.extract e0.toNat Ek.toNat).size 140737488355328) then
  let e1:Int:=((bytesOf (s.extract e0.toNat Ek.toNat)).length:Int)
  Eu s neg Ek 0 (bytesOf (s.extract e0.toNat Ek.toNat)) e1 0 d t t2
  else none
  else none
 else
  (vz neg d).bind fun r2=>
  some ((r2.1,(r2.2.1,())),true)
theorem BP (s neg Ek d t t2):jB s neg Ek d t t2=yo np iW s neg Ek d t t2:=(l1 76 0 _).trans (by kernel_rfl)
def yp (Eu:af np)(yq:af jB)(s:ByteArray)(neg:Bool)(Ek:Int)(x:Int)(t:List Int)(t2:Int)(t3:Int)(d:List Int)(t4:Bool)(t5:List Int):Option ((Bool×(List Int)×Unit)×Bool):=
 bif (decide (t3<t2)) then
  (idx t t3).bind fun v0=>
  bif (decide (v0<48)) then
   some ((false,(([]:List Int),())),false)
  else
   bif (decide (v0>57)) then
    some ((false,(([]:List Int),())),false)
   else
    let e1:Int:=(IntKind.wrap .u32 (IntKind.wrap .u8 (v0 - 48)))
    let e2:Int:=(IntKind.wrap .u32 ((IntKind.wrap .u32 (10*x))+e1))
    Eu s neg Ek e2 t t2 (IntKind.wrap .i64 (t3+1)) d t4 t5
 else
  bif (aD 4 1 d.length 1) then
  yq s neg (IntKind.wrap .i64 (Ek - 9)) (d++([x]:List Int)) t4 t5
  else none
theorem BQ (s neg Ek x t t2 t3 d t4 t5):np s neg Ek x t t2 t3 d t4 t5=yp np jB s neg Ek x t t2 t3 d t4 t5:=(l1 76 1 _).trans (by kernel_rfl)
def Mu (yq:af jB)(KG:af iJ)(a:ByteArray):Option ((Bool×(List Int)×Unit)×Bool):=
 (KG a (bs [45])).bind fun r0=>
 bif (r0.1.toList==ByteArray.empty.toList) then
  some ((false,(([]:List Int),())),false)
 else
  (zE r0.1 0).bind fun v1=>
  bif (v1==48) then
   bif (decide ((r0.1.size:Int)>1)) then
    some ((false,(([]:List Int),())),false)
   else
    bif r0.2 then
     some ((false,(([]:List Int),())),false)
    else
     yq r0.1 r0.2 (r0.1.size:Int) ([]:List Int) false ([]:List Int)
  else
   yq r0.1 r0.2 (r0.1.size:Int) ([]:List Int) false ([]:List Int)
theorem QH (a):E6 a=Mu jB iJ a:=(e1 76 _).trans (by kernel_rfl)
def DD (DE:af um)(u:Int)(neg:Bool)(d:List Int)(t:Bool)(t2:List Int):Option (Bool×(List Int)×Unit):=
 bif (decide (u>0)) then
  let e0:List Int:=([(IntKind.wrap .u32 (u.tmod 1000000000))]:List Int)
  bif (aD 4 1 d.length 1) then
  DE (IntKind.wrap .u64 (u.tdiv 1000000000)) neg (d++e0) t t2
  else none
 else
  some (neg,(d,()))
theorem GQ (u neg d t t2):um u neg d t t2=DD um u neg d t t2:=(l1 77 0 _).trans (by kernel_rfl)
def Tl (DE:af um)(n:Int):Option (Bool×(List Int)×Unit):=
 bif (decide (n<0)) then
  DE (IntKind.wrap .u64 (0 - (IntKind.wrap .u64 n))) (decide (n<0)) ([]:List Int) false ([]:List Int)
 else
  DE (IntKind.wrap .u64 n) (decide (n<0)) ([]:List Int) false ([]:List Int)
theorem VQ (n):xJ n=Tl um n:=(e1 77 _).trans (by kernel_rfl)
def xS (a:Bool×(List Int)×Unit):Option (Int):=
 bif ((a.2.1.length:Int)==0) then
  some 0
 else
  bif a.1 then
   some (-1)
  else
   some 1
theorem DF (a):iB a=xS a:=(e1 78 _).trans (by kernel_rfl)
def zQ (GR:af yY)(a:Bool×(List Int)×Unit)(b:Bool×(List Int)×Unit):Option (Int):=
 bif (!(a.1==b.1)) then
  bif a.1 then
   some (-1)
  else
   some 1
 else
  bif a.1 then
   (GR b.2.1 a.2.1).bind fun r0=>
   some r0
  else
   (GR a.2.1 b.2.1).bind fun r1=>
   some r1
theorem Fl (a b):fJ a b=zQ yY a b:=(e1 79 _).trans (by kernel_rfl)
def tA (nB:af ee)(Tn:af E8)(Zm:af E7)(sR:af xJ)(QI:af xK)(qw:af mF)(x:List Int)(y:List Int)(t:Bool)(t2:List Int):Option (Bool×(List Int)×Unit):=
 bif (decide ((y.length:Int)>0)) then
  bif (decide ((x.length:Int)≤2)) then
   bif (decide ((y.length:Int)≤2)) then
    (Tn x).bind fun r0=>
    (Tn y).bind fun r1=>
    (Zm r0 r1).bind fun r2=>
    (sR r2).bind fun r3=>
    some (r3.1,(r3.2.1,()))
   else
    (QI x y).bind fun r4=>
    (qw r4.2).bind fun r5=>
    nB y r5 t t2
  else
   (QI x y).bind fun r6=>
   (qw r6.2).bind fun r7=>
   nB y r7 t t2
 else
  some (false,(x,()))
theorem Ak (x y t t2):ee x y t t2=tA ee E8 E7 xJ xK mF x y t t2:=(l1 80 0 _).trans (by kernel_rfl)
def zS (nB:af ee)(a:Bool×(List Int)×Unit)(b:Bool×(List Int)×Unit):Option (Bool×(List Int)×Unit):=
 nB a.2.1 b.2.1 false ([]:List Int)
theorem Fm (a b):oX a b=zS ee a b:=(e1 80 _).trans (by kernel_rfl)
def zU (vz:af iW)(a:Bool×(List Int)×Unit):Option (Bool×(List Int)×Unit):=
 (vz (!a.1) a.2.1).bind fun r0=>
 some (r0.1,(r0.2.1,()))
theorem Fo (a):oY a=zU iW a:=(e1 81 _).trans (by kernel_rfl)
def zV (xP:af iB)(sR:af xJ)(a:(Bool×(List Int)×Unit)×(Bool×(List Int)×Unit)×Unit):Option (Bool×(List Int)×Unit):=
 (xP (a.2.1.1,(a.2.1.2.1,()))).bind fun r0=>
 bif (r0==0) then
  (sR 1).bind fun r1=>
  some (r1.1,(r1.2.1,()))
 else
  some (a.2.1.1,(a.2.1.2.1,()))
theorem Fp (a):jC a=zV iB xJ a:=(e1 82 _).trans (by kernel_rfl)
def me (rT:af eL)(rU:af dy)(t:List Int)(t2:Int)(t3:Int)(out:List Int)(a:Bool)(a2:List Int):Option (ByteArray):=
 bif (decide (t3<t2)) then
  (idx t t3).bind fun v0=>
  rT v0 t t2 t3 0 out a a2
 else
  rU out a a2
theorem qx (t t2 t3 out a a2):dx t t2 t3 out a a2=me eL dy t t2 t3 out a a2:=(l1 83 0 _).trans (by kernel_rfl)
def mf (rT:af eL)(rV:af dx)(x:Int)(t:List Int)(t2:Int)(t3:Int)(t4:Int)(out:List Int)(a:Bool)(a2:List Int):Option (ByteArray):=
 bif (decide (t4<9)) then
  let e0:Int:=(IntKind.wrap .u32 (48+(x.tmod 10)))
  bif (aD 1 1 out.length 1) then
  rT (IntKind.wrap .u32 (x.tdiv 10)) t t2 t3 (IntKind.wrap .i64 (t4+1)) (out++([(IntKind.wrap .u8 e0)]:List Int)) a a2
  else none
 else
  rV t t2 (IntKind.wrap .i64 (t3+1)) out a a2
theorem qy (x t t2 t3 t4 out a a2):eL x t t2 t3 t4 out a a2=mf eL dx x t t2 t3 t4 out a a2:=(l1 83 1 _).trans (by kernel_rfl)
def rW (rU:af dy)(mh:af dA)(out:List Int)(a:Bool)(a2:List Int):Option (ByteArray):=
 let e0:Int:=(IntKind.wrap .i64 ((out.length:Int) - 1))
 (idx out e0).bind fun _=>
 (out[e0.toNat]?).bind fun v1=>
 bif (v1==48) then
  let e2:Int:=(IntKind.wrap .i64 ((out.length:Int) - 1))
  bif (c6 out.length 0 e2) then
  rU (out.take e2.toNat) a a2
  else none
 else
  bif a then
   bif (aD 1 1 out.length 1) then
   let e3:Int:=((out++([45]:List Int)).length:Int)
   mh 0 (IntKind.wrap .i64 (e3 - 1)) (out++([45]:List Int))
   else none
  else
   let e4:Int:=(IntKind.wrap .i64 ((out.length:Int) - 1))
   mh 0 e4 out
theorem y4 (out a a2):dy out a a2=rW dy dA out a a2:=(l1 83 2 _).trans (by kernel_rfl)
def rX (mh:af dA)(i:Int)(j:Int)(out:List Int):Option (ByteArray):=
 bif (decide (i<j)) then
  (idx out j).bind fun _=>
  (out[j.toNat]?).bind fun v0=>
  (idx out i).bind fun _=>
  (out[i.toNat]?).bind fun v1=>
  (idx out i).bind fun _=>
  (out[i.toNat]?).bind fun v2=>
  (idx (out.set i.toNat v0) j).bind fun _=>
  ((out.set i.toNat v0)[j.toNat]?).bind fun v3=>
  mh (IntKind.wrap .i64 (i+1)) (IntKind.wrap .i64 (j - 1)) ((out.set i.toNat v0).set j.toNat v1)
 else
  some (strOf out)
theorem y5 (i j out):dA i j out=rX dA i j out:=(l1 83 3 _).trans (by kernel_rfl)
def xT (rV:af dx)(a:Bool×(List Int)×Unit):Option (ByteArray):=
 bif ((a.2.1.length:Int)==0) then
  some (bs [48])
 else
  let e0:Int:=(IntKind.wrap .i64 (9*(a.2.1.length:Int)))
  bif (ir 1 0 (IntKind.wrap .i64 (e0+1))) then
  rV a.2.1 (a.2.1.length:Int) 0 ([]:List Int) a.1 a.2.1
  else none
theorem DG (a):mE a=xT dx a:=(e1 83 _).trans (by kernel_rfl)
def nC (tB:af fA)(vz:af iW)(t:List Int)(t2:Int)(t3:Int)(out:List Int)(a:Bool)(a2:List Int)(b:Bool)(b2:List Int)(t4:Bool)(t5:List Int):Option (Bool×(List Int)×Unit):=
 bif (decide (t3<t2)) then
  (idx t t3).bind fun v0=>
  tB t3 v0 0 t t2 t3 b2 (b2.length:Int) 0 out a a2 b b2 t4 t5
 else
  (vz (!(a==b)) out).bind fun r1=>
  some (r1.1,(r1.2.1,()))
theorem rY (t t2 t3 out a a2 b b2 t4 t5):da t t2 t3 out a a2 b b2 t4 t5=nC fA iW t t2 t3 out a a2 b b2 t4 t5:=(l1 110 0 _).trans (by kernel_rfl)
def nD (tB:af fA)(tC:af da)(i:Int)(x:Int)(carry:Int)(t:List Int)(t2:Int)(t3:Int)(t4:List Int)(t5:Int)(t6:Int)(out:List Int)(a:Bool)(a2:List Int)(b:Bool)(b2:List Int)(t7:Bool)(t8:List Int):Option (Bool×(List Int)×Unit):=
 bif (decide (t6<t5)) then
  (idx t4 t6).bind fun v0=>
  let e1:Int:=(IntKind.wrap .u64 ((IntKind.wrap .u64 x)*(IntKind.wrap .u64 v0)))
  (idx out (IntKind.wrap .i64 (i+t6))).bind fun _=>
  (out[(IntKind.wrap .i64 (i+t6)).toNat]?).bind fun v2=>
  let e3:Int:=(IntKind.wrap .u64 (e1+(IntKind.wrap .u64 v2)))
  let e4:Int:=((IntKind.wrap .u64 (carry+e3)).tmod 1000000000)
  (idx out (IntKind.wrap .i64 (i+t6))).bind fun _=>
  (out[(IntKind.wrap .i64 (i+t6)).toNat]?).bind fun v5=>
  let e6:List Int:=(out.set (IntKind.wrap .i64 (i+t6)).toNat (IntKind.wrap .u32 e4))
  let e7:Int:=(IntKind.wrap .u64 ((IntKind.wrap .u64 (carry+e3)).tdiv 1000000000))
  tB i x e7 t t2 t3 t4 t5 (IntKind.wrap .i64 (t6+1)) e6 a a2 b b2 t7 t8
 else
  (idx out (IntKind.wrap .i64 (i+(b2.length:Int)))).bind fun _=>
  (out[(IntKind.wrap .i64 (i+(b2.length:Int))).toNat]?).bind fun v8=>
  let e9:List Int:=(out.set (IntKind.wrap .i64 (i+(b2.length:Int))).toNat (IntKind.wrap .u32 carry))
  tC t t2 (IntKind.wrap .i64 (t3+1)) e9 a a2 b b2 t7 t8
theorem rZ (i x carry t t2 t3 t4 t5 t6 out a a2 b b2 t7 t8):fA i x carry t t2 t3 t4 t5 t6 out a a2 b b2 t7 t8=nD fA da i x carry t t2 t3 t4 t5 t6 out a a2 b b2 t7 t8:=(l1 110 1 _).trans (by kernel_rfl)
def zX (tC:af da)(a:Bool×(List Int)×Unit)(b:Bool×(List Int)×Unit):Option (Bool×(List Int)×Unit):=
 let e0:Int:=(IntKind.wrap .i64 ((a.2.1.length:Int)+(b.2.1.length:Int)))
 bif (ir 4 e0 e0) then
 tC a.2.1 (a.2.1.length:Int) 0 (List.replicate e0.toNat 0) a.1 a.2.1 b.1 b.2.1 false ([]:List Int)
 else none
theorem Fq (a b):o5 a b=zX da a b:=(e1 110 _).trans (by kernel_rfl)
def GS (qw:af mF)(neg:Bool)(d:List Int):Option (Bool×(List Int)×Unit):=
 (qw d).bind fun r0=>
 bif neg then
  some ((decide ((r0.length:Int)>0)),(r0,()))
 else
  some (false,(r0,()))
theorem LF (neg d):iW neg d=GS mF neg d:=(e1 113 _).trans (by kernel_rfl)
def yr (Ew:af nq)(a:List Int)(b:List Int)(i:Int):Option (Int):=
 bif (decide (i≥0)) then
  (idx a i).bind fun v0=>
  (idx b i).bind fun v1=>
  bif (v0 != v1) then
   (idx a i).bind fun v2=>
   (idx b i).bind fun v3=>
   bif (decide (v2<v3)) then
    some (-1)
   else
    some 1
  else
   Ew a b (IntKind.wrap .i64 (i - 1))
 else
  some 0
theorem BR (a b i):nq a b i=yr nq a b i:=(l1 114 0 _).trans (by kernel_rfl)
def Mv (Ew:af nq)(a:List Int)(b:List Int):Option (Int):=
 bif ((a.length:Int) != (b.length:Int)) then
  bif (decide ((a.length:Int)<(b.length:Int))) then
   some (-1)
  else
   some 1
 else
  let e0:Int:=(IntKind.wrap .i64 ((a.length:Int) - 1))
  Ew a b e0
theorem QJ (a b):yY a b=Mv nq a b:=(e1 114 _).trans (by kernel_rfl)
def BS (BT:af ln)(x:Int)(y:Int):Option (Int):=
 bif (decide (y>0)) then
  bif (!(y==0)) then
  BT y (x.tmod y)
  else none
 else
  some x
theorem Hv (x y):ln x y=BS ln x y:=(l1 115 0 _).trans (by kernel_rfl)
def I6 (BT:af ln)(x:Int)(y:Int):Option (Int):=
 BT x y
theorem N6 (x y):E7 x y=I6 ln x y:=(e1 115 _).trans (by kernel_rfl)
def jF (Ey:af qs)(d:List Int)(n:Int)(i:Int):Option (Int):=
 bif (decide (i≥0)) then
  (idx d i).bind fun v0=>
  let e1:Int:=(IntKind.wrap .i64 ((IntKind.wrap .i64 (n*1000000000))+(IntKind.wrap .i64 v0)))
  Ey d e1 (IntKind.wrap .i64 (i - 1))
 else
  some n
theorem j9 (d n i):qs d n i=jF qs d n i:=(l1 116 0 _).trans (by kernel_rfl)
def Mw (Ey:af qs)(d:List Int):Option (Int):=
 let e0:Int:=(IntKind.wrap .i64 ((d.length:Int) - 1))
 Ey d 0 e0
theorem QK (d):E8 d=Mw qs d:=(e1 116 _).trans (by kernel_rfl)
def I7 (GR:af yY)(I8:af uq)(qw:af mF)(abc:af E9)(a:List Int)(b:List Int):Option ((List Int)×List Int):=
 (GR a b).bind fun r0=>
 bif (decide (r0<0)) then
  some (([]:List Int),a)
 else
  bif ((b.length:Int)==1) then
   (idx b 0).bind fun v1=>
   (I8 a v1).bind fun r2=>
   (qw ([r2.2]:List Int)).bind fun r3=>
   some (r2.1,r3)
  else
   (abc a b).bind fun r4=>
   some (r4.1,r4.2)
theorem N7 (a b):xK a b=I7 yY uq mF E9 a b:=(e1 117 _).trans (by kernel_rfl)
def yt (Ez:af nr)(d:List Int):Option (List Int):=
 bif (decide ((d.length:Int)>0)) then
  let e0:Int:=(IntKind.wrap .i64 ((d.length:Int) - 1))
  (idx d e0).bind fun v1=>
  bif (v1==0) then
   let e2:Int:=(IntKind.wrap .i64 ((d.length:Int) - 1))
   bif (c6 d.length 0 e2) then
   Ez (cut d 0 e2)
   else none
  else
   some d
 else
  some d
theorem BU (d):nr d=yt nr d:=(l1 118 0 _).trans (by kernel_rfl)
def My (Ez:af nr)(d:List Int):Option (List Int):=
 Ez d
theorem QL (d):mF d=My nr d:=(e1 118 _).trans (by kernel_rfl)
def xU (Fs:af mI)(a:(Bool×(List Int)×Unit)×(Bool×(List Int)×Unit)×Unit):Option (Bool):=
 (Fs (a.1.1,(a.1.2.1,()))).bind fun r0=>
 bif r0 then
  some true
 else
  (Fs (a.2.1.1,(a.2.1.2.1,()))).bind fun r1=>
  some r1
theorem DH (a):mG a=xU mI a:=(e1 149 _).trans (by kernel_rfl)
def vA (BV:af lq)(a:List Int)(b:Int)(rest:Int)(i:Int)(out:List Int):Option ((List Int)×Int):=
 bif (decide (i≥0)) then
  (idx a i).bind fun v0=>
  let e1:Int:=(IntKind.wrap .u64 ((IntKind.wrap .u64 (rest*1000000000))+(IntKind.wrap .u64 v0)))
  bif (!((IntKind.wrap .u64 b)==0)) then
  let e2:Int:=(IntKind.wrap .u64 (e1.tdiv (IntKind.wrap .u64 b)))
  bif (!((IntKind.wrap .u64 b)==0)) then
  (idx out i).bind fun _=>
  (out[i.toNat]?).bind fun v3=>
  BV a b (e1.tmod (IntKind.wrap .u64 b)) (IntKind.wrap .i64 (i - 1)) (out.set i.toNat (IntKind.wrap .u32 e2))
  else none
  else none
 else
  some (out,(IntKind.wrap .u32 rest))
theorem zY (a b rest i out):lq a b rest i out=vA lq a b rest i out:=(l1 152 0 _).trans (by kernel_rfl)
def I9 (BV:af lq)(a:List Int)(b:Int):Option ((List Int)×Int):=
 bif (ir 4 (a.length:Int) (a.length:Int)) then
 let e0:List Int:=(List.replicate (a.length:Int).toNat 0)
 let e1:Int:=(IntKind.wrap .i64 ((a.length:Int) - 1))
 BV a b 0 e1 e0
 else none
theorem N8 (a b):uq a b=I9 lq a b:=(e1 152 _).trans (by kernel_rfl)
def yv (yw:af jD)(I8:af uq)(k:Int)(v:List Int)(n:Int)(j:Int)(q:List Int)(u:List Int):Option ((List Int)×List Int):=
 bif (decide (j≥0)) then
  (idx u (IntKind.wrap .i64 (j+n))).bind fun _=>
  (u[(IntKind.wrap .i64 (j+n)).toNat]?).bind fun v0=>
  let e1:Int:=(IntKind.wrap .u64 ((IntKind.wrap .u64 v0)*1000000000))
  let e2:Int:=(IntKind.wrap .i64 ((IntKind.wrap .i64 (j+n)) - 1))
  (idx u e2).bind fun _=>
  (u[e2.toNat]?).bind fun v3=>
  let e4:Int:=(IntKind.wrap .u64 (e1+(IntKind.wrap .u64 v3)))
  (idx v (IntKind.wrap .i64 (n - 1))).bind fun v5=>
  bif (!((IntKind.wrap .u64 v5)==0)) then
  let e6:Int:=(IntKind.wrap .u64 (e4.tdiv (IntKind.wrap .u64 v5)))
  (idx v (IntKind.wrap .i64 (n - 1))).bind fun v7=>
  bif (!((IntKind.wrap .u64 v7)==0)) then
  yw k v n j e6 (e4.tmod (IntKind.wrap .u64 v7)) q u
  else none
  else none
 else
  bif (c6 u.length 0 n) then
  (I8 (u.take n.toNat) k).bind fun r8=>
  some (q,r8.1)
  else none
theorem BW (k v n j q u):eM k v n j q u=yv jD uq k v n j q u:=(l1 153 0 _).trans (by kernel_rfl)
def yx (jG:af gv)(yw:af jD)(k:Int)(v:List Int)(n:Int)(j:Int)(guess:Int)(rest:Int)(q:List Int)(u:List Int):Option ((List Int)×List Int):=
 bif (decide (guess≥1000000000)) then
  (idx v (IntKind.wrap .i64 (n - 1))).bind fun v0=>
  let e1:Int:=(IntKind.wrap .u64 (rest+(IntKind.wrap .u64 v0)))
  bif (decide (e1≥1000000000)) then
   jG k v n j (IntKind.wrap .u64 (guess - 1)) 0 n 0 q u
  else
   yw k v n j (IntKind.wrap .u64 (guess - 1)) e1 q u
 else
  (idx v (IntKind.wrap .i64 (n - 2))).bind fun v2=>
  let e3:Int:=(IntKind.wrap .u64 (guess*(IntKind.wrap .u64 v2)))
  let e4:Int:=(IntKind.wrap .i64 ((IntKind.wrap .i64 (j+n)) - 2))
  (idx u e4).bind fun _=>
  (u[e4.toNat]?).bind fun v5=>
  let e6:Int:=(IntKind.wrap .u64 ((IntKind.wrap .u64 (rest*1000000000))+(IntKind.wrap .u64 v5)))
  bif (decide (e3>e6)) then
   (idx v (IntKind.wrap .i64 (n - 1))).bind fun v7=>
   let e8:Int:=(IntKind.wrap .u64 (rest+(IntKind.wrap .u64 v7)))
   bif (decide (e8≥1000000000)) then
    jG k v n j (IntKind.wrap .u64 (guess - 1)) 0 n 0 q u
   else
    yw k v n j (IntKind.wrap .u64 (guess - 1)) e8 q u
  else
   jG k v n j guess 0 n 0 q u
theorem BY (k v n j guess rest q u):jD k v n j guess rest q u=yx gv jD k v n j guess rest q u:=(l1 153 1 _).trans (by kernel_rfl)
def yy (jG:af gv)(EA:af lr)(sS:af eM)(k:Int)(v:List Int)(n:Int)(j:Int)(guess:Int)(borrow:Int)(t:Int)(t2:Int)(q:List Int)(u:List Int):Option ((List Int)×List Int):=
 bif (decide (t2<t)) then
  (idx u (IntKind.wrap .i64 (t2+j))).bind fun _=>
  (u[(IntKind.wrap .i64 (t2+j)).toNat]?).bind fun v0=>
  let e1:Int:=(IntKind.wrap .i64 ((IntKind.wrap .i64 v0) - borrow))
  (idx v t2).bind fun v2=>
  let e3:Int:=(IntKind.wrap .i64 ((IntKind.wrap .i64 guess)*(IntKind.wrap .i64 v2)))
  let e4:Int:=(IntKind.wrap .i64 (e1 - (e3.tmod 1000000000)))
  (idx v t2).bind fun v5=>
  let e6:Int:=(IntKind.wrap .i64 ((IntKind.wrap .i64 guess)*(IntKind.wrap .i64 v5)))
  bif (decide (e4<0)) then
   let e7:Int:=(IntKind.wrap .i64 ((IntKind.wrap .i64 (e6.tdiv 1000000000))+1))
   bif (decide ((IntKind.wrap .i64 (e4+1000000000))<0)) then
    let e8:Int:=(IntKind.wrap .i64 ((IntKind.wrap .i64 (e4+1000000000))+1000000000))
    (idx u (IntKind.wrap .i64 (t2+j))).bind fun _=>
    (u[(IntKind.wrap .i64 (t2+j)).toNat]?).bind fun v9=>
    let Y8:List Int:=(u.set (IntKind.wrap .i64 (t2+j)).toNat (IntKind.wrap .u32 e8))
    jG k v n j guess (IntKind.wrap .i64 (e7+1)) t (IntKind.wrap .i64 (t2+1)) q Y8
   else
    let Uv:Int:=(IntKind.wrap .u32 (IntKind.wrap .i64 (e4+1000000000)))
    (idx u (IntKind.wrap .i64 (t2+j))).bind fun _=>
    (u[(IntKind.wrap .i64 (t2+j)).toNat]?).bind fun v12=>
    jG k v n j guess e7 t (IntKind.wrap .i64 (t2+1)) q (u.set (IntKind.wrap .i64 (t2+j)).toNat Uv)
  else
   bif (decide (e4<0)) then
    let W7:Int:=(IntKind.wrap .i64 ((IntKind.wrap .i64 (e6.tdiv 1000000000))+1))
    let e14:Int:=(IntKind.wrap .u32 (IntKind.wrap .i64 (e4+1000000000)))
    (idx u (IntKind.wrap .i64 (t2+j))).bind fun _=>
    (u[(IntKind.wrap .i64 (t2+j)).toNat]?).bind fun v15=>
    jG k v n j guess W7 t (IntKind.wrap .i64 (t2+1)) q (u.set (IntKind.wrap .i64 (t2+j)).toNat e14)
   else
    (idx u (IntKind.wrap .i64 (t2+j))).bind fun _=>
    (u[(IntKind.wrap .i64 (t2+j)).toNat]?).bind fun v16=>
    let e17:List Int:=(u.set (IntKind.wrap .i64 (t2+j)).toNat (IntKind.wrap .u32 e4))
    jG k v n j guess (IntKind.wrap .i64 (e6.tdiv 1000000000)) t (IntKind.wrap .i64 (t2+1)) q e17
 else
  (idx u (IntKind.wrap .i64 (j+n))).bind fun _=>
  (u[(IntKind.wrap .i64 (j+n)).toNat]?).bind fun v18=>
  let e19:Int:=(IntKind.wrap .i64 ((IntKind.wrap .i64 v18) - borrow))
  bif (decide (e19<0)) then
   EA k v n j (IntKind.wrap .u64 (guess - 1)) e19 0 n 0 q u
  else
   (idx u (IntKind.wrap .i64 (j+n))).bind fun _=>
   (u[(IntKind.wrap .i64 (j+n)).toNat]?).bind fun v20=>
   let e21:List Int:=(u.set (IntKind.wrap .i64 (j+n)).toNat 0)
   (idx q j).bind fun _=>
   (q[j.toNat]?).bind fun v22=>
   sS k v n (IntKind.wrap .i64 (j - 1)) (q.set j.toNat (IntKind.wrap .u32 guess)) e21
theorem BZ (k v n j guess borrow t t2 q u):gv k v n j guess borrow t t2 q u=yy gv lr eM k v n j guess borrow t t2 q u:=(l1 153 2 _).trans (by kernel_rfl)
def yz (EA:af lr)(sS:af eM)(k:Int)(v:List Int)(n:Int)(j:Int)(guess:Int)(x:Int)(carry:Int)(t:Int)(t2:Int)(q:List Int)(u:List Int):Option ((List Int)×List Int):=
 bif (decide (t2<t)) then
  (idx u (IntKind.wrap .i64 (t2+j))).bind fun _=>
  (u[(IntKind.wrap .i64 (t2+j)).toNat]?).bind fun v0=>
  (idx v t2).bind fun v1=>
  let e2:Int:=(IntKind.wrap .u32 ((IntKind.wrap .u32 (v0+v1))+carry))
  (idx u (IntKind.wrap .i64 (t2+j))).bind fun _=>
  (u[(IntKind.wrap .i64 (t2+j)).toNat]?).bind fun v3=>
  let e4:List Int:=(u.set (IntKind.wrap .i64 (t2+j)).toNat (e2.tmod 1000000000))
  EA k v n j guess x (IntKind.wrap .u32 (e2.tdiv 1000000000)) t (IntKind.wrap .i64 (t2+1)) q e4
 else
  let e5:Int:=(IntKind.wrap .i64 (x+(IntKind.wrap .i64 carry)))
  (idx u (IntKind.wrap .i64 (j+n))).bind fun _=>
  (u[(IntKind.wrap .i64 (j+n)).toNat]?).bind fun v6=>
  let e7:List Int:=(u.set (IntKind.wrap .i64 (j+n)).toNat 0)
  (idx q j).bind fun _=>
  (q[j.toNat]?).bind fun v8=>
  sS k v n (IntKind.wrap .i64 (j - 1)) (q.set j.toNat (IntKind.wrap .u32 guess)) e7
theorem B0 (k v n j guess x carry t t2 q u):lr k v n j guess x carry t t2 q u=yz lr eM k v n j guess x carry t t2 q u:=(l1 153 3 _).trans (by kernel_rfl)
def Mz (sS:af eM)(N9:af xL)(qw:af mF)(a:List Int)(b:List Int):Option ((List Int)×List Int):=
 let e0:Int:=(IntKind.wrap .i64 ((b.length:Int) - 1))
 (idx b e0).bind fun v1=>
 let e2:Int:=(IntKind.wrap .u64 ((IntKind.wrap .u64 v1)+1))
 bif (!(e2==0)) then
 let e3:Int:=(IntKind.wrap .u32 (IntKind.wrap .u64 ((1000000000:Int).tdiv e2)))
 (N9 a e3).bind fun r4=>
 (N9 b e3).bind fun r5=>
 (qw r5).bind fun r6=>
 let e7:Int:=(IntKind.wrap .i64 ((r4.length:Int) - (r6.length:Int)))
 bif (ir 4 e7 e7) then
 let e8:Int:=(IntKind.wrap .i64 ((r4.length:Int) - (r6.length:Int)))
 sS e3 r6 (r6.length:Int) (IntKind.wrap .i64 (e8 - 1)) (List.replicate e7.toNat 0) r4
 else none
 else none
theorem QM (a b):E9 a b=Mz eM xL mF a b:=(e1 153 _).trans (by kernel_rfl)
def xV (MA:af gY)(a:Bool×(List Int)×Unit):Option (Bool):=
 (MA (a.1,(a.2.1,()))).bind fun r0=>
 some (decide (r0>1000))
theorem DI (a):mI a=xV gY a:=(e1 164 _).trans (by kernel_rfl)
def tk (zZ:af jE)(k:Int)(carry:Int)(t:List Int)(t2:Int)(t3:Int)(out:List Int):Option (List Int):=
 bif (decide (t3<t2)) then
  (idx t t3).bind fun v0=>
  let e1:Int:=(IntKind.wrap .u64 ((IntKind.wrap .u64 v0)*(IntKind.wrap .u64 k)))
  let e2:Int:=((IntKind.wrap .u64 (carry+e1)).tmod 1000000000)
  bif (aD 4 1 out.length 1) then
  let e3:Int:=(IntKind.wrap .u64 ((IntKind.wrap .u64 (carry+e1)).tdiv 1000000000))
  zZ k e3 t t2 (IntKind.wrap .i64 (t3+1)) (out++([(IntKind.wrap .u32 e2)]:List Int))
  else none
 else
  bif (aD 4 1 out.length 1) then
  let e4:List Int:=(out++([(IntKind.wrap .u32 carry)]:List Int))
  some e4
  else none
theorem xW (k carry t t2 t3 out):jE k carry t t2 t3 out=tk jE k carry t t2 t3 out:=(l1 170 0 _).trans (by kernel_rfl)
def GU (zZ:af jE)(a:List Int)(k:Int):Option (List Int):=
 let e0:Int:=(IntKind.wrap .i64 ((a.length:Int)+1))
 bif (ir 4 0 e0) then
 zZ k 0 a (a.length:Int) 0 ([]:List Int)
 else none
theorem LG (a k):xL a k=GU jE a k:=(e1 170 _).trans (by kernel_rfl)
def o7 (o8:af dm)(n:Int)(x:Int):Option (Int):=
 bif (decide (x>0)) then
  o8 (IntKind.wrap .i64 (n+1)) (IntKind.wrap .u32 (x.tdiv 10))
 else
  some n
theorem vB (n x):dm n x=o7 dm n x:=(l1 176 0 _).trans (by kernel_rfl)
def tD (o8:af dm)(a:Bool×(List Int)×Unit):Option (Int):=
 bif ((a.2.1.length:Int)==0) then
  some 0
 else
  let e0:Int:=(IntKind.wrap .i64 ((a.2.1.length:Int) - 1))
  let e1:Int:=(IntKind.wrap .i64 ((a.2.1.length:Int) - 1))
  (idx a.2.1 e1).bind fun v2=>
  o8 (IntKind.wrap .i64 (9*e0)) v2
theorem Al (a):gY a=tD dm a:=(e1 176 _).trans (by kernel_rfl)
end
end Go.Proofs.YtofjebmoebhiiaaGreatDoor.Ev
namespace Go.Proofs.YtofjebmoebhiiaaGreatDoor.Ev
open Go.Abs
noncomputable section
def EB (W8:af BA)(a:ByteArray):Option (Bool):=
 (W8 a).bind fun r0=>
 some r0.2
theorem Ja (a):ui a=EB BA a:=(e1 68 _).trans (by kernel_rfl)
def GV (sL:af gr)(PI:af mG)(a:ByteArray):Option (((Bool×(List Int)×Unit)×(Bool×(List Int)×Unit)×Unit)×Bool):=
 (sL a).bind fun r0=>
 bif r0.2 then
  (PI ((r0.1.1.1,(r0.1.1.2.1,())),((r0.1.2.1.1,(r0.1.2.1.2.1,())),()))).bind fun r1=>
  some (((r0.1.1.1,(r0.1.1.2.1,())),((r0.1.2.1.1,(r0.1.2.1.2.1,())),())),(!r1))
 else
  some (((r0.1.1.1,(r0.1.1.2.1,())),((r0.1.2.1.1,(r0.1.2.1.2.1,())),())),false)
theorem LH (a):BA a=GV gr mG a:=(e1 108 _).trans (by kernel_rfl)
end
end Go.Proofs.YtofjebmoebhiiaaGreatDoor.Ev
namespace Go.Proofs.YtofjebmoebhiiaaGreatDoor.Ev
open Go.Abs
noncomputable section
def lQ (GW:af iE)(s:b9)(f:Int):Option (Bool):=
 (GW s f).bind fun r0=>
 some (decide (r0≥0))
theorem rK (s f):eg s f=lQ iE s f:=(e1 100070 _).trans (by kernel_rfl)
def lR (GX:af iF)(s:b9)(f:jY×zqC):Option (Bool):=
 (GX s ((f.1.1,(f.1.2.1,())),(f.2.1,(f.2.2.1,(f.2.2.2.1,()))))).bind fun r0=>
 some (decide (r0≥0))
theorem rL (s f):eo s f=lR iF s f:=(e1 100071 _).trans (by kernel_rfl)
def gG (kR:af bL)(Rk:af sG)(s:b9)(f:Int)(t:Int)(t2:Int):Option (Int):=
 bif (decide (t2<t)) then
  (idx s t2).bind fun v0=>
  (Rk (v0.1,(v0.2.1,())) f).bind fun r1=>
  bif r1 then
   some t2
  else
   kR s f t (IntKind.wrap .i64 (t2+1))
 else
  some (-1)
theorem ka (s f t t2):bL s f t t2=gG bL sG s f t t2:=(l1 100109 0 _).trans (by kernel_rfl)
def nE (kR:af bL)(s:b9)(f:Int):Option (Int):=
 kR s f (s.length:Int) 0
theorem uw (s f):iE s f=nE bL s f:=(e1 100109 _).trans (by kernel_rfl)
def gH (kS:af bM)(Rl:af sH)(s:b9)(f:Int)(f2:qX)(f3:Int)(f4:ByteArray)(f5:b9)(t:Int)(t2:Int):Option (Int):=
 bif (decide (t2<t)) then
  (idx s t2).bind fun v0=>
  (Rl (v0.1,(v0.2.1,())) (f,(f2,())) (f3,(f4,(f5,())))).bind fun r1=>
  bif r1 then
   some t2
  else
   kS s f f2 f3 f4 f5 t (IntKind.wrap .i64 (t2+1))
 else
  some (-1)
theorem kb (s f f2 f3 f4 f5 t t2):bM s f f2 f3 f4 f5 t t2=gH bM sH s f f2 f3 f4 f5 t t2:=(l1 100110 0 _).trans (by kernel_rfl)
def nF (kS:af bM)(s:b9)(f:jY×zqC):Option (Int):=
 kS s f.1.1 f.1.2.1 f.2.1 f.2.2.1 f.2.2.2.1 (s.length:Int) 0
theorem ux (s f):iF s f=nF bM s f:=(e1 100110 _).trans (by kernel_rfl)
end
end Go.Proofs.YtofjebmoebhiiaaGreatDoor.Ev
namespace Go.Proofs.YtofjebmoebhiiaaGreatDoor.Ev
open Go.Abs
noncomputable section
def EC (Oa:af oL)(s:ByteArray)(sep:ByteArray):Option (ByteArray×ByteArray×Bool):=
 (Oa s sep).bind fun r0=>
 some (r0.1,r0.2.1,r0.2.2)
theorem Jb (s sep):uk s sep=EC oL s sep:=(e1 75 _).trans (by kernel_rfl)
def sc (Ft:af gL)(s:ByteArray)(fg:ByteArray):Option (ByteArray×Bool):=
 (Ft s fg).bind fun r0=>
 some (r0.1,r0.2)
theorem y6 (s fg):iJ s fg=sc gL s fg:=(e1 112 _).trans (by kernel_rfl)
end
end Go.Proofs.YtofjebmoebhiiaaGreatDoor.Ev
namespace Go.Proofs.YtofjebmoebhiiaaGreatDoor.Ev
open Go.Abs
noncomputable section
def vC (KH:af iM)(s:ByteArray)(sep:ByteArray):Option (ByteArray×ByteArray×Bool):=
 (KH s sep).bind fun r0=>
 bif (decide (r0≥0)) then
  bif (c6 s.size 0 r0) then
  bif (c6 s.size (IntKind.wrap .i64 (r0+(sep.size:Int))) (s.size:Int)) then
  let e1:ByteArray:=(s.extract (IntKind.wrap .i64 (r0+(sep.size:Int))).toNat (s.size:Int).toNat)
  some ((s.extract (0:Int).toNat r0.toNat),e1,true)
  else none
  else none
 else
  some (s,ByteArray.empty,false)
theorem B1 (s sep):oL s sep=vC iM s sep:=(e1 111 _).trans (by kernel_rfl)
def se (Fu:af eS)(s:ByteArray)(substr:ByteArray):Option (Int):=
 bif ((substr.size:Int)==0) then
  some 0
 else
  bif (substr.toList==s.toList) then
   some 0
  else
   bif ((substr.size:Int)==1) then
    (zE substr 0).bind fun v0=>
    (Fu s v0).bind fun r1=>
    some r1
   else
    bif (decide ((substr.size:Int)≥(s.size:Int))) then
    some (-1)
    else none
theorem y7 (s substr):iM s substr=se eS s substr:=(e1 150 _).trans (by kernel_rfl)
def mM (Fv:af gM)(s:ByteArray)(fg:ByteArray):Option (ByteArray×Bool):=
 (Fv s fg).bind fun r0=>
 bif (!r0) then
  some (s,false)
 else
  bif (c6 s.size (fg.size:Int) (s.size:Int)) then
  let e1:ByteArray:=(s.extract (fg.size:Int).toNat (s.size:Int).toNat)
  some (e1,true)
  else none
theorem sT (s fg):gL s fg=mM gM s fg:=(e1 151 _).trans (by kernel_rfl)
def mN (s:ByteArray)(fg:ByteArray):Option (Bool):=
 bif (decide ((s.size:Int)≥(fg.size:Int))) then
  bif (c6 s.size 0 (fg.size:Int)) then
  let e0:ByteArray:=(s.extract (0:Int).toNat (fg.size:Int).toNat)
  some (e0.toList==fg.toList)
  else none
 else
  some false
theorem sU (s fg):gM s fg=mN s fg:=(e1 169 _).trans (by kernel_rfl)
end
end Go.Proofs.YtofjebmoebhiiaaGreatDoor.Ev
namespace Go.Proofs.YtofjebmoebhiiaaGreatDoor.Ev
open Go.Abs
noncomputable section
end
end Go.Proofs.YtofjebmoebhiiaaGreatDoor.Ev
namespace Go.Proofs.YtofjebmoebhiiaaGreatDoor.Ev
open Go.Abs
noncomputable section
def oQ (MB:af jJ)(MC:af qY)(rz:af lN)(MD:af qZ)(Ob:af tf)(raw:(List (List Int))×(List Int)×Int×(List Int)×Unit):Option (Bool):=
 MB.bind fun r0=>
 bif (!r0) then
  some false
 else
  (MC (raw.1,(raw.2.1,(raw.2.2.1,(raw.2.2.2.1,())))) 24).bind fun r1=>
  (rz (r1.1,(r1.2.1,()))).bind fun r2=>
  (rz (r2.1.1,(r2.1.2.1,()))).bind fun r3=>
  bif (r2.2==0) then
   bif (r3.2==0) then
    (MD (r2.1.1,(r2.1.2.1,()))).bind fun r4=>
    bif (r4==0) then
     (Ob (r3.1.1,(r3.1.2.1,())) (r1.1,(r1.2.1,()))).bind fun r5=>
     some r5
    else
     some false
   else
    some false
  else
   some false
theorem y8 (raw):jZ raw=oQ jJ qY lN qZ tf raw:=(e1 8 _).trans (by kernel_rfl)
def B2 (ly:af j0)(PJ:af qp)(UD:af yX)(ME:af mB)(rz:af lN)(nG:af iA)(Jc:af vk)(iO:af ck):Option (Bool):=
 let e0:b9:=([(0,((-1),())),(1,(3,())),(2,(4,())),(5,(6,()))]:b9)
 ly.bind fun r1=>
 (PJ (r1.1,(r1.2.1,()))).bind fun r2=>
 ly.bind fun r3=>
 (UD (r3.1,(r3.2.1,()))).bind fun r4=>
 ly.bind fun r5=>
 (ME (r5.1,(r5.2.1,()))).bind fun r6=>
 ly.bind fun r7=>
 (rz (r7.1,(r7.2.1,()))).bind fun r8=>
 bif (r2.2.2==0) then
  bif (r4.2.2==0) then
   bif (r6.2.2==0) then
    bif (r8.2==0) then
     (nG r2.1 e0).bind fun r9=>
     bif r9 then
      (nG r4.1 e0).bind fun Np=>
      bif Np then
       (nG r6.1 e0).bind fun r11=>
       bif r11 then
        bif (Bj yT (r2.2.1.1,(r2.2.1.2.1,())) (2,(0,()))) then
         bif (Bj yT (r4.2.1.1,(r4.2.1.2.1,())) (0,(3,()))) then
          bif (Bj yT (r6.2.1.1,(r6.2.1.2.1,())) (2,(3,()))) then
           bif ((r8.1.2.1.length:Int)==7) then
            (idx r8.1.2.1 0).bind fun v12=>
            bif (v12.1==2) then
             (idx r8.1.2.1 1).bind fun v13=>
             bif (v13.2.1.toList==(bs [45,50]).toList) then
              (idx r8.1.2.1 1).bind fun v14=>
              (Jc ([0,(2:Int)]:List Int)).bind fun r15=>
              (iO v14.2.2.1 r15).bind fun r16=>
              bif r16 then
               (idx r8.1.2.1 4).bind fun v17=>
               bif (v17.1==4) then
                (idx r8.1.2.1 4).bind fun v18=>
                bif (v18.2.1.toList==(bs [45,49,47,50]).toList) then
                 (idx r8.1.2.1 4).bind fun v19=>
                 let e20:List Int:=([1,(1:Int),(2:Int),(1:Int)]:List Int)
                 (Jc e20).bind fun r21=>
                 (iO v19.2.2.1 r21).bind fun r22=>
                 some r22
                else
                 some false
               else
                some false
              else
               some false
             else
              some false
            else
             some false
           else
            some false
          else
           some false
         else
          some false
        else
         some false
       else
        some false
      else
       some false
     else
      some false
    else
     some false
   else
    some false
  else
   some false
 else
  some false
theorem KI:jJ=B2 j0 qp yX mB lN iA vk ck:=(GI T B lf 13 ()).trans (by kernel_rfl)
def y9 (z6:af jy):Option jY:=
 let e0:List ((List Int)×ByteArray×Unit):=([(([0]:List Int),((bs [48]),())),(([1]:List Int),((bs [48]),())),(([2]:List Int),((bs [49,47,50]),())),(([0,(1:Int)]:List Int),((bs [49]),())),(([1,(2:Int)]:List Int),((bs [49]),())),(([0,(2:Int)]:List Int),((bs [50]),())),(([0,(1:Int),(2:Int)]:List Int),((bs [51]),()))]:List ((List Int)×ByteArray×Unit))
 (z6 e0 3).bind fun r1=>
 some (r1.1.1,(r1.1.2.1,()))
theorem HW:j0=y9 jy:=(GI T B lf 28 ()).trans (by kernel_rfl)
def DJ (vD:af iU)(l:List Int)(i:Int)(out:b9):Option b9:=
 bif (decide ((IntKind.wrap .i64 (i+1))<(l.length:Int))) then
  (idx l i).bind fun v0=>
  (idx l (IntKind.wrap .i64 (i+1))).bind fun v1=>
  bif (aD 16 2 out.length 1) then
  let e2:b9:=(out++([(v0,(v1,()))]:b9))
  vD l (IntKind.wrap .i64 (i+2)) e2
  else none
 else
  some out
theorem MF (l i out):iU l i out=DJ iU l i out:=(l1 31 0 _).trans (by kernel_rfl)
def Jd (vD:af iU)(l:List Int):Option b9:=
 vD l 0 ([]:b9)
theorem Rm (l):vk l=Jd iU l:=(e1 31 _).trans (by kernel_rfl)
end
end Go.Proofs.YtofjebmoebhiiaaGreatDoor.Ev
namespace Go.Proofs.YtofjebmoebhiiaaGreatDoor.Ev
open Go.Abs
noncomputable section
def o9 (aj:af ao)(aw:af al)(a:ByteArray):Option (ByteArray):=
 (aj a).bind fun r0=>
 (aw (!r0.1) r0.2).bind fun r1=>
 some r1
theorem vE (a):df a=o9 ao al a:=(e1 66 _).trans (by kernel_rfl)
def qz (aj:af ao)(fO:af c8)(a:ByteArray)(b:ByteArray):Option (Int):=
 (aj a).bind fun r0=>
 (aj b).bind fun r1=>
 bif (!(r0.1==r1.1)) then
  bif r0.1 then
   some (-1)
  else
   some 1
 else
  bif r0.1 then
   (fO r1.2 r0.2).bind fun r2=>
   some r2
  else
   (fO r0.2 r1.2).bind fun r3=>
   some r3
theorem wY (a b):bF a b=qz ao c8 a b:=(e1 104 _).trans (by kernel_rfl)
def ku (pa:af dg)(pb:af cA)(p:Bool)(x:List Int)(q:Bool)(y:List Int)(i:Int)(out:List Int):Option (ByteArray):=
 bif (decide (i<(x.length:Int))) then
  pa p x q y i 0 out
 else
  pb p q 0 out
theorem nH (p x q y i out):bq p x q y i out=ku dg cA p x q y i out:=(l1 105 0 _).trans (by kernel_rfl)
def kv (pa:af dg)(kx:af bq)(p:Bool)(x:List Int)(q:Bool)(y:List Int)(i:Int)(k:Int)(out:List Int):Option (ByteArray):=
 bif (decide (k<(y.length:Int))) then
  (idx out (IntKind.wrap .i64 (i+k))).bind fun _=>
  (out[(IntKind.wrap .i64 (i+k)).toNat]?).bind fun v0=>
  (idx x i).bind fun v1=>
  (idx y k).bind fun v2=>
  let e3:Int:=(IntKind.wrap .i64 (v0+(IntKind.wrap .i64 (v1*v2))))
  (idx out (IntKind.wrap .i64 (i+k))).bind fun _=>
  (out[(IntKind.wrap .i64 (i+k)).toNat]?).bind fun v4=>
  pa p x q y i (IntKind.wrap .i64 (k+1)) (out.set (IntKind.wrap .i64 (i+k)).toNat e3)
 else
  kx p x q y (IntKind.wrap .i64 (i+1)) out
theorem nI (p x q y i k out):dg p x q y i k out=kv dg bq p x q y i k out:=(l1 105 1 _).trans (by kernel_rfl)
def ky (pb:af cA)(aw:af al)(p:Bool)(q:Bool)(i:Int)(out:List Int):Option (ByteArray):=
 bif (decide ((IntKind.wrap .i64 (i+1))<(out.length:Int))) then
  (idx out (IntKind.wrap .i64 (i+1))).bind fun _=>
  (out[(IntKind.wrap .i64 (i+1)).toNat]?).bind fun v0=>
  (idx out i).bind fun _=>
  (out[i.toNat]?).bind fun v1=>
  let e2:Int:=(IntKind.wrap .i64 (v0+(IntKind.wrap .i64 (v1.tdiv 10))))
  (idx out (IntKind.wrap .i64 (i+1))).bind fun _=>
  (out[(IntKind.wrap .i64 (i+1)).toNat]?).bind fun v3=>
  let e4:List Int:=(out.set (IntKind.wrap .i64 (i+1)).toNat e2)
  (idx e4 i).bind fun _=>
  (e4[i.toNat]?).bind fun v5=>
  (idx e4 i).bind fun _=>
  (e4[i.toNat]?).bind fun v6=>
  pb p q (IntKind.wrap .i64 (i+1)) (e4.set i.toNat (v5.tmod 10))
 else
  (aw (!(p==q)) out).bind fun r7=>
  some r7
theorem nJ (p q i out):cA p q i out=ky cA al p q i out:=(l1 105 2 _).trans (by kernel_rfl)
def tF (kx:af bq)(dQ:af db)(aP:af bC)(aj:af ao)(a:ByteArray)(b:ByteArray):Option (ByteArray):=
 (dQ a).bind fun r0=>
 (dQ b).bind fun r1=>
 bif r0.2 then
  bif r1.2 then
   (aP (IntKind.wrap .i64 (r0.1*r1.1))).bind fun r2=>
   some r2
  else
   (aj a).bind fun r3=>
   (aj b).bind fun r4=>
   let e5:Int:=(IntKind.wrap .i64 ((r3.2.length:Int)+(r4.2.length:Int)))
   bif (ir 8 (IntKind.wrap .i64 (e5+1)) (IntKind.wrap .i64 (e5+1))) then
   let e6:List Int:=(List.replicate (IntKind.wrap .i64 (e5+1)).toNat 0)
   kx r3.1 r3.2 r4.1 r4.2 0 e6
   else none
 else
  (aj a).bind fun r7=>
  (aj b).bind fun r8=>
  let e9:Int:=(IntKind.wrap .i64 ((r7.2.length:Int)+(r8.2.length:Int)))
  bif (ir 8 (IntKind.wrap .i64 (e9+1)) (IntKind.wrap .i64 (e9+1))) then
  let Y8:List Int:=(List.replicate (IntKind.wrap .i64 (e9+1)).toNat 0)
  kx r7.1 r7.2 r8.1 r8.2 0 Y8
  else none
theorem Am (a b):fz a b=tF bq db bC ao a b:=(e1 105 _).trans (by kernel_rfl)
def jh (fP:af cP)(cM:af bb)(a:ByteArray)(minus:Bool)(i:Int)(d:List Int):Option (Bool×List Int):=
 bif (decide (i≥0)) then
  (zE a i).bind fun v0=>
  bif (v0 != 45) then
   (zE a i).bind fun v1=>
   let e2:Int:=(IntKind.wrap .i64 ((IntKind.wrap .i64 v1) - 48))
   bif (aD 8 1 d.length 1) then
   fP a minus (IntKind.wrap .i64 (i - 1)) (d++([e2]:List Int))
   else none
  else
   fP a minus (IntKind.wrap .i64 (i - 1)) d
 else
  (cM d).bind fun r3=>
  some (minus,r3)
theorem mO (a minus i d):cP a minus i d=jh cP bb a minus i d:=(l1 106 0 _).trans (by kernel_rfl)
def sf (fP:af cP)(a:ByteArray):Option (Bool×List Int):=
 bif (decide ((a.size:Int)>0)) then
  (zE a 0).bind fun v0=>
  fP a (v0==45) (IntKind.wrap .i64 ((a.size:Int) - 1)) ([]:List Int)
 else
  fP a false (IntKind.wrap .i64 ((a.size:Int) - 1)) ([]:List Int)
theorem za (a):ao a=sf cP a:=(e1 106 _).trans (by kernel_rfl)
def lz (lA:af dI)(d:List Int)(i:Int)(out:List Int):Option (ByteArray):=
 bif (decide (i≥0)) then
  (idx d i).bind fun v0=>
  let e1:Int:=(IntKind.wrap .u8 (IntKind.wrap .i64 (48+v0)))
  bif (aD 1 1 out.length 1) then
  lA d (IntKind.wrap .i64 (i - 1)) (out++([e1]:List Int))
  else none
 else
  some (strOf out)
theorem pc (d i out):dI d i out=lz dI d i out:=(l1 107 0 _).trans (by kernel_rfl)
def vF (lA:af dI)(cM:af bb)(minus:Bool)(d:List Int):Option (ByteArray):=
 (cM d).bind fun r0=>
 bif ((r0.length:Int)==0) then
  some (bs [48])
 else
  bif minus then
   bif (aD 1 1 0 1) then
   let e1:Int:=(IntKind.wrap .i64 ((r0.length:Int) - 1))
   lA r0 e1 (([]:List Int)++([45]:List Int))
   else none
  else
   let e2:Int:=(IntKind.wrap .i64 ((r0.length:Int) - 1))
   lA r0 e2 ([]:List Int)
theorem B3 (minus d):al minus d=vF dI bb minus d:=(e1 107 _).trans (by kernel_rfl)
def ji (nK:af cR)(aw:af al)(q:Int)(d:List Int):Option (ByteArray):=
 bif (decide (q>0)) then
  bif (aD 8 1 d.length 1) then
  nK (IntKind.wrap .i64 (q.tdiv 10)) (d++([(q.tmod 10)]:List Int))
  else none
 else
  (aw true d).bind fun r0=>
  some r0
theorem mP (q d):cR q d=ji cR al q d:=(l1 139 0 _).trans (by kernel_rfl)
def jl (nL:af cS)(aw:af al)(n:Int)(d:List Int):Option (ByteArray):=
 bif (decide (n>0)) then
  bif (aD 8 1 d.length 1) then
  nL (IntKind.wrap .i64 (n.tdiv 10)) (d++([(n.tmod 10)]:List Int))
  else none
 else
  (aw false d).bind fun r0=>
  some r0
theorem mQ (n d):cS n d=jl cS al n d:=(l1 139 1 _).trans (by kernel_rfl)
def sg (nK:af cR)(nL:af cS)(n:Int):Option (ByteArray):=
 bif (decide (n<0)) then
  let e0:List Int:=([(IntKind.wrap .i64 (0 - (n.tmod 10)))]:List Int)
  bif (aD 8 1 0 1) then
  let e1:Int:=(IntKind.wrap .i64 (0 - (IntKind.wrap .i64 (n.tdiv 10))))
  nK e1 (([]:List Int)++e0)
  else none
 else
  nL n ([]:List Int)
theorem zb (n):bC n=sg cR cS n:=(e1 139 _).trans (by kernel_rfl)
def vG (sh:af eN)(a:ByteArray):Option (Bool):=
 (sh a).bind fun r0=>
 some (decide (r0>1000))
theorem B4 (a):iX a=vG eN a:=(e1 143 _).trans (by kernel_rfl)
def kz (bo:af cB)(s:ByteArray)(i:Int):Option (Bool):=
 bif (decide (i<(s.size:Int))) then
  (zE s i).bind fun v0=>
  bif (decide (v0<48)) then
   some false
  else
   (zE s i).bind fun v1=>
   bif (decide (v1>57)) then
    some false
   else
    bo s (IntKind.wrap .i64 (i+1))
 else
  some true
theorem nM (s i):cB s i=kz cB s i:=(l1 144 0 _).trans (by kernel_rfl)
def tG (bo:af cB)(a:ByteArray):Option (Bool):=
 bif (decide ((a.size:Int)>0)) then
  (zE a 0).bind fun v0=>
  bif (v0==45) then
   bif (c6 a.size 1 (a.size:Int)) then
   let e1:Int:=((a.extract (1:Int).toNat (a.size:Int).toNat).size:Int)
   bif (decide (e1>0)) then
    (zE (a.extract (1:Int).toNat (a.size:Int).toNat) 0).bind fun v2=>
    bif (v2==48) then
     some false
    else
     let e3:Int:=((a.extract (1:Int).toNat (a.size:Int).toNat).size:Int)
     bif (e3==0) then
      some false
     else
      (zE (a.extract (1:Int).toNat (a.size:Int).toNat) 0).bind fun v4=>
      bif (v4==48) then
       let e5:Int:=((a.extract (1:Int).toNat (a.size:Int).toNat).size:Int)
       bif (decide (e5>1)) then
        some false
       else
        bo (a.extract (1:Int).toNat (a.size:Int).toNat) 0
      else
       bo (a.extract (1:Int).toNat (a.size:Int).toNat) 0
   else
    let e6:Int:=((a.extract (1:Int).toNat (a.size:Int).toNat).size:Int)
    bif (e6==0) then
     some false
    else
     (zE (a.extract (1:Int).toNat (a.size:Int).toNat) 0).bind fun v7=>
     bif (v7==48) then
      let e8:Int:=((a.extract (1:Int).toNat (a.size:Int).toNat).size:Int)
      bif (decide (e8>1)) then
       some false
      else
       bo (a.extract (1:Int).toNat (a.size:Int).toNat) 0
     else
      bo (a.extract (1:Int).toNat (a.size:Int).toNat) 0
   else none
  else
   bif ((a.size:Int)==0) then
    some false
   else
    (zE a 0).bind fun v9=>
    bif (v9==48) then
     bif (decide ((a.size:Int)>1)) then
      some false
     else
      bo a 0
    else
     bo a 0
 else
  bif ((a.size:Int)==0) then
   some false
  else
   (zE a 0).bind fun v10=>
   bif (v10==48) then
    bif (decide ((a.size:Int)>1)) then
     some false
    else
     bo a 0
   else
    bo a 0
theorem An (a):jQ a=tG cB a:=(e1 144 _).trans (by kernel_rfl)
def mR (mS:af cn)(eT:af dk)(x:ByteArray)(y:ByteArray):Option (ByteArray):=
 bif (!(y.toList==(bs [48]).toList)) then
  (eT x y).bind fun r0=>
  mS y r0.2
 else
  some x
theorem sV (x y):cn x y=mR cn dk x y:=(l1 145 0 _).trans (by kernel_rfl)
def qA (mS:af cn)(wZ:af gq)(a:ByteArray)(b:ByteArray):Option (ByteArray):=
 (wZ a).bind fun r0=>
 (wZ b).bind fun r1=>
 mS r0 r1
theorem w6 (a b):dK a b=qA cn gq a b:=(e1 145 _).trans (by kernel_rfl)
def lB (qB:af dL)(a:List Int)(b:List Int)(i:Int):Option (Int):=
 bif (decide (i≥0)) then
  (idx a i).bind fun v0=>
  (idx b i).bind fun v1=>
  bif (decide (v0<v1)) then
   some (-1)
  else
   (idx a i).bind fun v2=>
   (idx b i).bind fun v3=>
   bif (decide (v2>v3)) then
    some 1
   else
    qB a b (IntKind.wrap .i64 (i - 1))
 else
  some 0
theorem pd (a b i):dL a b i=lB dL a b i:=(l1 146 0 _).trans (by kernel_rfl)
def vH (qB:af dL)(a:List Int)(b:List Int):Option (Int):=
 bif ((a.length:Int) != (b.length:Int)) then
  bif (decide ((a.length:Int)<(b.length:Int))) then
   some (-1)
  else
   some 1
 else
  let e0:Int:=(IntKind.wrap .i64 ((a.length:Int) - 1))
  qB a b e0
theorem B5 (a b):c8 a b=vH dL a b:=(e1 146 _).trans (by kernel_rfl)
def kA (kB:af dj)(a:ByteArray)(n:Int)(i:Int):Option (Int×Bool):=
 bif (decide (i<(a.size:Int))) then
  (zE a i).bind fun v0=>
  bif (v0 != 45) then
   (zE a i).bind fun v1=>
   let e2:Int:=(IntKind.wrap .i64 ((IntKind.wrap .i64 (10*n))+(IntKind.wrap .i64 v1)))
   kB a (IntKind.wrap .i64 (e2 - 48)) (IntKind.wrap .i64 (i+1))
  else
   kB a n (IntKind.wrap .i64 (i+1))
 else
  bif (decide ((a.size:Int)>0)) then
   (zE a 0).bind fun v3=>
   bif (v3==45) then
    some ((IntKind.wrap .i64 (0 - n)),true)
   else
    some (n,true)
  else
   some (n,true)
theorem nN (a n i):dj a n i=kA dj a n i:=(l1 147 0 _).trans (by kernel_rfl)
def tH (kB:af dj)(sh:af eN)(a:ByteArray):Option (Int×Bool):=
 (sh a).bind fun r0=>
 bif (decide (r0>9)) then
  some (0,false)
 else
  kB a 0 0
theorem Ao (a):db a=tH dj eN a:=(e1 147 _).trans (by kernel_rfl)
def lC (qC:af dM)(d:List Int):Option (List Int):=
 bif (decide ((d.length:Int)>0)) then
  let e0:Int:=(IntKind.wrap .i64 ((d.length:Int) - 1))
  (idx d e0).bind fun v1=>
  bif (v1==0) then
   let e2:Int:=(IntKind.wrap .i64 ((d.length:Int) - 1))
   bif (c6 d.length 0 e2) then
   qC (cut d 0 e2)
   else none
  else
   some d
 else
  some d
theorem pe (d):dM d=lC dM d:=(l1 148 0 _).trans (by kernel_rfl)
def vI (qC:af dM)(d:List Int):Option (List Int):=
 qC d
theorem B6 (d):bb d=vI dM d:=(e1 148 _).trans (by kernel_rfl)
def ig (lS:af b8)(lT:af aF)(cM:af bb)(b:ByteArray)(p:Bool)(x:List Int)(s:Bool)(y:List Int)(r:List Int)(i:Int)(q:List Int):Option (ByteArray×ByteArray):=
 bif (decide (i≥0)) then
  (idx x i).bind fun v0=>
  bif (aD 8 1 1 r.length) then
  (cM (([v0]:List Int)++r)).bind fun r1=>
  lS b p x s y r1 i 0 q
  else none
 else
  lT b p s r 0 q
theorem kT (b p x s y r i q):bh b p x s y r i q=ig b8 aF bb b p x s y r i q:=(l1 161 0 _).trans (by kernel_rfl)
def lU (lS:af b8)(ij:af bh)(fO:af c8)(dB:af aU)(b:ByteArray)(p:Bool)(x:List Int)(s:Bool)(y:List Int)(r:List Int)(i:Int)(k:Int)(q:List Int):Option (ByteArray×ByteArray):=
 (fO r y).bind fun r0=>
 bif (decide (r0≥0)) then
  (dB r y).bind fun r1=>
  lS b p x s y r1 i (IntKind.wrap .i64 (k+1)) q
 else
  bif (aD 8 1 q.length 1) then
  ij b p x s y r (IntKind.wrap .i64 (i - 1)) (q++([k]:List Int))
  else none
theorem rM (b p x s y r i k q):b8 b p x s y r i k q=lU b8 bh c8 aU b p x s y r i k q:=(l1 161 1 _).trans (by kernel_rfl)
def ik (lT:af aF)(aw:af al)(MG:af jR)(vJ:af gw)(b:ByteArray)(p:Bool)(s:Bool)(r:List Int)(i:Int)(q:List Int):Option (ByteArray×ByteArray):=
 let e0:Int:=(IntKind.wrap .i64 ((q.length:Int).tdiv 2))
 bif (decide (i<e0)) then
  let e1:Int:=(IntKind.wrap .i64 ((q.length:Int) - 1))
  let e2:Int:=(IntKind.wrap .i64 ((q.length:Int) - 1))
  (idx q (IntKind.wrap .i64 (e2 - i))).bind fun _=>
  (q[(IntKind.wrap .i64 (e2 - i)).toNat]?).bind fun v3=>
  (idx q i).bind fun _=>
  (q[i.toNat]?).bind fun v4=>
  (idx q i).bind fun _=>
  (q[i.toNat]?).bind fun v5=>
  (idx (q.set i.toNat v3) (IntKind.wrap .i64 (e1 - i))).bind fun _=>
  ((q.set i.toNat v3)[(IntKind.wrap .i64 (e1 - i)).toNat]?).bind fun v6=>
  let e7:List Int:=((q.set i.toNat v3).set (IntKind.wrap .i64 (e1 - i)).toNat v4)
  lT b p s r (IntKind.wrap .i64 (i+1)) e7
 else
  (aw (!(p==s)) q).bind fun r8=>
  (aw p r).bind fun r9=>
  bif (!(r9.toList==(bs [48]).toList)) then
   bif (!(p==s)) then
    (MG r8 (bs [49])).bind fun Np=>
    (vJ r9 b).bind fun r11=>
    some (Np,r11)
   else
    some (r8,r9)
  else
   some (r8,r9)
theorem kU (b p s r i q):aF b p s r i q=ik aF al jR gw b p s r i q:=(l1 161 2 _).trans (by kernel_rfl)
def pf (ij:af bh)(dQ:af db)(aP:af bC)(aj:af ao)(cM:af bb)(a:ByteArray)(b:ByteArray):Option (ByteArray×ByteArray):=
 (dQ a).bind fun r0=>
 (dQ b).bind fun r1=>
 bif r0.2 then
  bif r1.2 then
   bif (!(r1.1==0)) then
   bif (!(r1.1==0)) then
   bif ((r0.1.tmod r1.1) != 0) then
    bif (!((decide ((r0.1.tmod r1.1)<0))==(decide (r1.1<0)))) then
     let e2:Int:=(IntKind.wrap .i64 ((IntKind.wrap .i64 (r0.1.tdiv r1.1)) - 1))
     (aP e2).bind fun r3=>
     (aP (IntKind.wrap .i64 ((r0.1.tmod r1.1)+r1.1))).bind fun r4=>
     some (r3,r4)
    else
     (aP (IntKind.wrap .i64 (r0.1.tdiv r1.1))).bind fun r5=>
     (aP (r0.1.tmod r1.1)).bind fun r6=>
     some (r5,r6)
   else
    (aP (IntKind.wrap .i64 (r0.1.tdiv r1.1))).bind fun r7=>
    (aP (r0.1.tmod r1.1)).bind fun r8=>
    some (r7,r8)
   else none
   else none
  else
   (aj a).bind fun r9=>
   (aj b).bind fun Np=>
   let Uv:Int:=(IntKind.wrap .i64 ((Np.2.length:Int) - 1))
   let e12:Int:=(bif decide (Uv>0) then Uv else 0)
   let W7:Int:=(bif decide ((IntKind.wrap .i64 ((r9.2.length:Int) - e12))>0) then (IntKind.wrap .i64 ((r9.2.length:Int) - e12)) else 0)
   bif (c6 r9.2.length W7 (r9.2.length:Int)) then
   bif (aD 8 1 0 (cut r9.2 W7 (r9.2.length:Int)).length) then
   let e14:List Int:=(([]:List Int)++(cut r9.2 W7 (r9.2.length:Int)))
   (cM e14).bind fun r15=>
   ij b r9.1 r9.2 Np.1 Np.2 r15 (IntKind.wrap .i64 (W7 - 1)) ([]:List Int)
   else none
   else none
 else
  (aj a).bind fun r16=>
  (aj b).bind fun r17=>
  let e18:Int:=(IntKind.wrap .i64 ((r17.2.length:Int) - 1))
  let e19:Int:=(bif decide (e18>0) then e18 else 0)
  let e20:Int:=(bif decide ((IntKind.wrap .i64 ((r16.2.length:Int) - e19))>0) then (IntKind.wrap .i64 ((r16.2.length:Int) - e19)) else 0)
  bif (c6 r16.2.length e20 (r16.2.length:Int)) then
  bif (aD 8 1 0 (cut r16.2 e20 (r16.2.length:Int)).length) then
  let e21:List Int:=(([]:List Int)++(cut r16.2 e20 (r16.2.length:Int)))
  (cM e21).bind fun r22=>
  ij b r16.1 r16.2 r17.1 r17.2 r22 (IntKind.wrap .i64 (e20 - 1)) ([]:List Int)
  else none
  else none
theorem vK (a b):dk a b=pf bh db bC ao bb a b:=(e1 161 _).trans (by kernel_rfl)
def si (a:ByteArray):Option (Int):=
 bif (decide ((a.size:Int)>0)) then
  (zE a 0).bind fun v0=>
  bif (v0==45) then
   some (IntKind.wrap .i64 ((a.size:Int) - 1))
  else
   some (a.size:Int)
 else
  some (a.size:Int)
theorem zc (a):eN a=si a:=(e1 162 _).trans (by kernel_rfl)
def pg (aj:af ao)(aw:af al)(a:ByteArray):Option (ByteArray):=
 (aj a).bind fun r0=>
 (aw false r0.2).bind fun r1=>
 some r1
theorem vL (a):gq a=pg ao al a:=(e1 163 _).trans (by kernel_rfl)
def fQ (cK:af bw)(cM:af bb)(a:List Int)(b:List Int)(borrow:Int)(i:Int)(out:List Int):Option (List Int):=
 bif (decide (i<(a.length:Int))) then
  (idx a i).bind fun v0=>
  bif (decide (i<(b.length:Int))) then
   (idx b i).bind fun v1=>
   let e2:Int:=(IntKind.wrap .i64 ((IntKind.wrap .i64 (v0 - borrow)) - v1))
   bif (decide (e2<0)) then
    let e3:List Int:=([(IntKind.wrap .i64 (e2+10))]:List Int)
    bif (aD 8 1 out.length 1) then
    cK a b 1 (IntKind.wrap .i64 (i+1)) (out++e3)
    else none
   else
    bif (aD 8 1 out.length 1) then
    cK a b 0 (IntKind.wrap .i64 (i+1)) (out++([e2]:List Int))
    else none
  else
   bif (decide ((IntKind.wrap .i64 (v0 - borrow))<0)) then
    let e4:Int:=(IntKind.wrap .i64 ((IntKind.wrap .i64 (v0 - borrow))+10))
    bif (aD 8 1 out.length 1) then
    cK a b 1 (IntKind.wrap .i64 (i+1)) (out++([e4]:List Int))
    else none
   else
    bif (aD 8 1 out.length 1) then
    let e5:List Int:=(out++([(IntKind.wrap .i64 (v0 - borrow))]:List Int))
    cK a b 0 (IntKind.wrap .i64 (i+1)) e5
    else none
 else
  (cM out).bind fun r6=>
  some r6
theorem jm (a b borrow i out):bw a b borrow i out=fQ bw bb a b borrow i out:=(l1 173 0 _).trans (by kernel_rfl)
def mT (cK:af bw)(a:List Int)(b:List Int):Option (List Int):=
 cK a b 0 0 ([]:List Int)
theorem sW (a b):aU a b=mT bw a b:=(e1 173 _).trans (by kernel_rfl)
def tI (kC:af df)(vJ:af gw)(a:ByteArray)(b:ByteArray):Option (ByteArray):=
 (kC b).bind fun r0=>
 (vJ a r0).bind fun r1=>
 some r1
theorem Ap (a b):jR a b=tI df gw a b:=(e1 174 _).trans (by kernel_rfl)
def vM (dQ:af db)(aP:af bC)(aj:af ao)(Fw:af iD)(aw:af al)(fO:af c8)(dB:af aU)(a:ByteArray)(b:ByteArray):Option (ByteArray):=
 (dQ a).bind fun r0=>
 (dQ b).bind fun r1=>
 bif r0.2 then
  bif r1.2 then
   (aP (IntKind.wrap .i64 (r0.1+r1.1))).bind fun r2=>
   some r2
  else
   (aj a).bind fun r3=>
   (aj b).bind fun r4=>
   bif (r3.1==r4.1) then
    (Fw r3.2 r4.2).bind fun r5=>
    (aw r3.1 r5).bind fun r6=>
    some r6
   else
    (fO r3.2 r4.2).bind fun r7=>
    bif (decide (r7<0)) then
     (dB r4.2 r3.2).bind fun r8=>
     (aw r4.1 r8).bind fun r9=>
     some r9
    else
     (dB r3.2 r4.2).bind fun Np=>
     (aw r3.1 Np).bind fun r11=>
     some r11
 else
  (aj a).bind fun r12=>
  (aj b).bind fun r13=>
  bif (r12.1==r13.1) then
   (Fw r12.2 r13.2).bind fun r14=>
   (aw r12.1 r14).bind fun r15=>
   some r15
  else
   (fO r12.2 r13.2).bind fun r16=>
   bif (decide (r16<0)) then
    (dB r13.2 r12.2).bind fun r17=>
    (aw r13.1 r17).bind fun r18=>
    some r18
   else
    (dB r12.2 r13.2).bind fun r19=>
    (aw r12.1 r19).bind fun r20=>
    some r20
theorem B7 (a b):gw a b=vM db bC ao iD al c8 aU a b:=(e1 175 _).trans (by kernel_rfl)
def i6 (aI:af eO)(a:List Int)(b:List Int)(carry:Int)(i:Int)(out:List Int):Option (List Int):=
 bif (decide (i<(a.length:Int))) then
  bif (decide (i<(a.length:Int))) then
   (idx a i).bind fun v0=>
   bif (decide (i<(b.length:Int))) then
    (idx b i).bind fun v1=>
    let e2:Int:=(IntKind.wrap .i64 ((IntKind.wrap .i64 (carry+v0))+v1))
    bif (aD 8 1 out.length 1) then
    aI a b (IntKind.wrap .i64 (e2.tdiv 10)) (IntKind.wrap .i64 (i+1)) (out++([(e2.tmod 10)]:List Int))
    else none
   else
    let e3:Int:=((IntKind.wrap .i64 (carry+v0)).tmod 10)
    bif (aD 8 1 out.length 1) then
    let e4:Int:=(IntKind.wrap .i64 ((IntKind.wrap .i64 (carry+v0)).tdiv 10))
    aI a b e4 (IntKind.wrap .i64 (i+1)) (out++([e3]:List Int))
    else none
  else
   bif (decide (i<(b.length:Int))) then
    (idx b i).bind fun v5=>
    let e6:Int:=((IntKind.wrap .i64 (carry+v5)).tmod 10)
    bif (aD 8 1 out.length 1) then
    let e7:Int:=(IntKind.wrap .i64 ((IntKind.wrap .i64 (carry+v5)).tdiv 10))
    aI a b e7 (IntKind.wrap .i64 (i+1)) (out++([e6]:List Int))
    else none
   else
    bif (aD 8 1 out.length 1) then
    aI a b (IntKind.wrap .i64 (carry.tdiv 10)) (IntKind.wrap .i64 (i+1)) (out++([(carry.tmod 10)]:List Int))
    else none
 else
  bif (decide (i<(b.length:Int))) then
   bif (decide (i<(a.length:Int))) then
    (idx a i).bind fun v8=>
    bif (decide (i<(b.length:Int))) then
     (idx b i).bind fun v9=>
     let Y8:Int:=(IntKind.wrap .i64 ((IntKind.wrap .i64 (carry+v8))+v9))
     bif (aD 8 1 out.length 1) then
     aI a b (IntKind.wrap .i64 (Y8.tdiv 10)) (IntKind.wrap .i64 (i+1)) (out++([(Y8.tmod 10)]:List Int))
     else none
    else
     let Uv:Int:=((IntKind.wrap .i64 (carry+v8)).tmod 10)
     bif (aD 8 1 out.length 1) then
     let e12:Int:=(IntKind.wrap .i64 ((IntKind.wrap .i64 (carry+v8)).tdiv 10))
     aI a b e12 (IntKind.wrap .i64 (i+1)) (out++([Uv]:List Int))
     else none
   else
    bif (decide (i<(b.length:Int))) then
     (idx b i).bind fun v13=>
     let e14:Int:=((IntKind.wrap .i64 (carry+v13)).tmod 10)
     bif (aD 8 1 out.length 1) then
     let e15:Int:=(IntKind.wrap .i64 ((IntKind.wrap .i64 (carry+v13)).tdiv 10))
     aI a b e15 (IntKind.wrap .i64 (i+1)) (out++([e14]:List Int))
     else none
    else
     bif (aD 8 1 out.length 1) then
     aI a b (IntKind.wrap .i64 (carry.tdiv 10)) (IntKind.wrap .i64 (i+1)) (out++([(carry.tmod 10)]:List Int))
     else none
  else
   bif (decide (carry>0)) then
    bif (decide (i<(a.length:Int))) then
     (idx a i).bind fun v16=>
     bif (decide (i<(b.length:Int))) then
      (idx b i).bind fun v17=>
      let e18:Int:=(IntKind.wrap .i64 ((IntKind.wrap .i64 (carry+v16))+v17))
      bif (aD 8 1 out.length 1) then
      aI a b (IntKind.wrap .i64 (e18.tdiv 10)) (IntKind.wrap .i64 (i+1)) (out++([(e18.tmod 10)]:List Int))
      else none
     else
      let e19:Int:=((IntKind.wrap .i64 (carry+v16)).tmod 10)
      bif (aD 8 1 out.length 1) then
      let e20:Int:=(IntKind.wrap .i64 ((IntKind.wrap .i64 (carry+v16)).tdiv 10))
      aI a b e20 (IntKind.wrap .i64 (i+1)) (out++([e19]:List Int))
      else none
    else
     bif (decide (i<(b.length:Int))) then
      (idx b i).bind fun v21=>
      let e22:Int:=((IntKind.wrap .i64 (carry+v21)).tmod 10)
      bif (aD 8 1 out.length 1) then
      let e23:Int:=(IntKind.wrap .i64 ((IntKind.wrap .i64 (carry+v21)).tdiv 10))
      aI a b e23 (IntKind.wrap .i64 (i+1)) (out++([e22]:List Int))
      else none
     else
      bif (aD 8 1 out.length 1) then
      aI a b (IntKind.wrap .i64 (carry.tdiv 10)) (IntKind.wrap .i64 (i+1)) (out++([(carry.tmod 10)]:List Int))
      else none
   else
    some out
theorem lD (a b carry i out):eO a b carry i out=i6 eO a b carry i out:=(l1 179 0 _).trans (by kernel_rfl)
def xX (aI:af eO)(a:List Int)(b:List Int):Option (List Int):=
 aI a b 0 0 ([]:List Int)
theorem DK (a b):iD a b=xX eO a b:=(e1 179 _).trans (by kernel_rfl)
end
end Go.Proofs.YtofjebmoebhiiaaGreatDoor.Ev
namespace Go.Proofs.YtofjebmoebhiiaaGreatDoor.Ev
open Go.Abs
noncomputable section
def tJ (Od:af kZ)(Rn:af oZ)(a:ByteArray):Option (Bool):=
 (Od a).bind fun r0=>
 bif (!r0) then
  (Rn a).bind fun r1=>
  some r1
 else
  some false
theorem Aq (a):c9 a=tJ kZ oZ a:=(e1 61 _).trans (by kernel_rfl)
def qD (dR:af cG)(bz:af bF)(dS:af fz)(a:ByteArray)(b:ByteArray):Option (Int):=
 bif (a.toList==(bs [105,110,102]).toList) then
  bif (b.toList==(bs [105,110,102]).toList) then
   some 0
  else
   bif (a.toList==(bs [105,110,102]).toList) then
    some 1
   else
    bif (b.toList==(bs [105,110,102]).toList) then
     some (-1)
    else
     (dR a).bind fun r0=>
     (dR b).bind fun r1=>
     bif (r0.2.1.toList==(bs [49]).toList) then
      bif (r1.2.1.toList==(bs [49]).toList) then
       (bz r0.1 r1.1).bind fun r2=>
       some r2
      else
       (dS r0.1 r1.2.1).bind fun r3=>
       (dS r1.1 r0.2.1).bind fun r4=>
       (bz r3 r4).bind fun r5=>
       some r5
     else
      (dS r0.1 r1.2.1).bind fun r6=>
      (dS r1.1 r0.2.1).bind fun r7=>
      (bz r6 r7).bind fun r8=>
      some r8
 else
  bif (a.toList==(bs [105,110,102]).toList) then
   some 1
  else
   bif (b.toList==(bs [105,110,102]).toList) then
    some (-1)
   else
    (dR a).bind fun r9=>
    (dR b).bind fun Np=>
    bif (r9.2.1.toList==(bs [49]).toList) then
     bif (Np.2.1.toList==(bs [49]).toList) then
      (bz r9.1 Np.1).bind fun r11=>
      some r11
     else
      (dS r9.1 Np.2.1).bind fun r12=>
      (dS Np.1 r9.2.1).bind fun r13=>
      (bz r12 r13).bind fun r14=>
      some r14
    else
     (dS r9.1 Np.2.1).bind fun r15=>
     (dS Np.1 r9.2.1).bind fun r16=>
     (bz r15 r16).bind fun r17=>
     some r17
theorem w7 (a b):aX a b=qD cG bF fz a b:=(e1 64 _).trans (by kernel_rfl)
def kD (ph:af de)(a:ByteArray)(i:Int):Option (ByteArray×ByteArray×Bool):=
 bif (decide (i<(a.size:Int))) then
  (zE a i).bind fun v0=>
  bif (v0==47) then
   bif (c6 a.size 0 i) then
   bif (c6 a.size (IntKind.wrap .i64 (i+1)) (a.size:Int)) then
   let e1:ByteArray:=(a.extract (IntKind.wrap .i64 (i+1)).toNat (a.size:Int).toNat)
   some ((a.extract (0:Int).toNat i.toNat),e1,true)
   else none
   else none
  else
   ph a (IntKind.wrap .i64 (i+1))
 else
  some (a,(bs [49]),false)
theorem nO (a i):de a i=kD de a i:=(l1 65 0 _).trans (by kernel_rfl)
def tK (ph:af de)(a:ByteArray):Option (ByteArray×ByteArray×Bool):=
 ph a 0
theorem Ar (a):cG a=tK de a:=(e1 65 _).trans (by kernel_rfl)
def w8 (aP:af bC)(Je:af j7)(a:Int)(b:Int):Option (ByteArray):=
 (aP a).bind fun r0=>
 (aP b).bind fun r1=>
 (Je r0 r1).bind fun r2=>
 some r2
theorem GY (a b):gi a b=w8 bC j7 a b:=(e1 95 _).trans (by kernel_rfl)
def vN (dR:af cG)(DL:af iX)(a:ByteArray):Option (Bool):=
 (dR a).bind fun r0=>
 (DL r0.1).bind fun r1=>
 bif r1 then
  some true
 else
  (DL r0.2.1).bind fun r2=>
  some r2
theorem B8 (a):kZ a=vN cG iX a:=(e1 102 _).trans (by kernel_rfl)
def z7 (dR:af cG)(B9:af jQ)(bz:af bF)(lE:af dK)(a:ByteArray):Option (Bool):=
 (dR a).bind fun r0=>
 (B9 r0.1).bind fun r1=>
 bif (!r1) then
  some false
 else
  bif (!r0.2.2) then
   some true
  else
   (B9 r0.2.1).bind fun r2=>
   bif r2 then
    bif (!(r0.1.toList==(bs [48]).toList)) then
     (bz r0.2.1 (bs [50])).bind fun r3=>
     bif (decide (r3≥0)) then
      (lE r0.1 r0.2.1).bind fun r4=>
      some (r4.toList==(bs [49]).toList)
     else
      some false
    else
     some false
   else
    some false
theorem Fx (a):oZ a=z7 cG jQ bF dK a:=(e1 103 _).trans (by kernel_rfl)
def zd (bz:af bF)(kC:af df)(lE:af dK)(eT:af dk)(n:ByteArray)(d:ByteArray):Option (ByteArray):=
 (bz d (bs [48])).bind fun r0=>
 bif (decide (r0<0)) then
  (kC n).bind fun r1=>
  (kC d).bind fun r2=>
  (lE r1 r2).bind fun r3=>
  bif (!(r3.toList==(bs [49]).toList)) then
   (eT r1 r3).bind fun r4=>
   (eT r2 r3).bind fun r5=>
   bif (r5.1.toList==(bs [49]).toList) then
    some r4.1
   else
    bif (Nat.ble (r4.1.size+(bs [47]).size) 9223372036854775807) then
    bif (Nat.ble ((r4.1++(bs [47])).size+r5.1.size) 9223372036854775807) then
    some ((r4.1++(bs [47]))++r5.1)
    else none
    else none
  else
   bif (r2.toList==(bs [49]).toList) then
    some r1
   else
    bif (Nat.ble (r1.size+(bs [47]).size) 9223372036854775807) then
    bif (Nat.ble ((r1++(bs [47])).size+r2.size) 9223372036854775807) then
    some ((r1++(bs [47]))++r2)
    else none
    else none
 else
  (lE n d).bind fun r6=>
  bif (!(r6.toList==(bs [49]).toList)) then
   (eT n r6).bind fun r7=>
   (eT d r6).bind fun r8=>
   bif (r8.1.toList==(bs [49]).toList) then
    some r7.1
   else
    bif (Nat.ble (r7.1.size+(bs [47]).size) 9223372036854775807) then
    bif (Nat.ble ((r7.1++(bs [47])).size+r8.1.size) 9223372036854775807) then
    some ((r7.1++(bs [47]))++r8.1)
    else none
    else none
  else
   bif (d.toList==(bs [49]).toList) then
    some n
   else
    bif (Nat.ble (n.size+(bs [47]).size) 9223372036854775807) then
    bif (Nat.ble ((n++(bs [47])).size+d.size) 9223372036854775807) then
    some ((n++(bs [47]))++d)
    else none
    else none
theorem HY (n d):j7 n d=zd bF df dK dk n d:=(e1 138 _).trans (by kernel_rfl)
end
end Go.Proofs.YtofjebmoebhiiaaGreatDoor.Ev
namespace Go.Proofs.YtofjebmoebhiiaaGreatDoor.Ev
open Go.Abs
noncomputable section
def fR (nP:af cO)(Jf:af gX)(s:List Int)(i:Int)(out:List (List Int)):Option (List (List Int)):=
 bif (decide ((s.length:Int)>1)) then
  bif (decide (i<(s.length:Int))) then
   (Jf s i).bind fun r0=>
   bif (aD 24 1 out.length 1) then
   nP s (IntKind.wrap .i64 (i+1)) (out++([r0]:List (List Int)))
   else none
  else
   some out
 else
  some out
theorem iP (s i out):cO s i out=fR cO gX s i out:=(l1 58 0 _).trans (by kernel_rfl)
def sj (nP:af cO)(s:List Int):Option (List (List Int)):=
 nP s 0 ([]:List (List Int))
theorem ze (s):bB s=sj cO s:=(e1 58 _).trans (by kernel_rfl)
def mi (sk:af eK)(a:List Int)(b:List Int)(i:Int):Option (Int):=
 bif (decide (i<(a.length:Int))) then
  (idx a i).bind fun v0=>
  (idx b i).bind fun v1=>
  bif (decide (v0<v1)) then
   some (-1)
  else
   (idx a i).bind fun v2=>
   (idx b i).bind fun v3=>
   bif (decide (v2>v3)) then
    some 1
   else
    sk a b (IntKind.wrap .i64 (i+1))
 else
  some 0
theorem qE (a b i):eK a b i=mi eK a b i:=(l1 59 0 _).trans (by kernel_rfl)
def xY (sk:af eK)(a:List Int)(b:List Int):Option (Int):=
 bif ((a.length:Int) != (b.length:Int)) then
  bif (decide ((a.length:Int)<(b.length:Int))) then
   some (-1)
  else
   some 1
 else
  sk a b 0
theorem DM (a b):aT a b=xY eK a b:=(e1 59 _).trans (by kernel_rfl)
def pj (kE:af gh)(z8:af o6)(mj:af iK)(l:List Int)(most:Int)(n:Int)(i:Int)(out:List Int):Option (List Int):=
 bif (decide (i<(l.length:Int))) then
  bif (decide ((out.length:Int)<most)) then
   (idx l i).bind fun v0=>
   bif (!(n==0)) then
   bif (!(n==0)) then
   (z8 out ((IntKind.wrap .i64 ((v0.tmod n)+n)).tmod n)).bind fun r1=>
   bif (!r1) then
    let e2:List Int:=([((IntKind.wrap .i64 ((v0.tmod n)+n)).tmod n)]:List Int)
    bif (aD 8 1 out.length 1) then
    kE l most n (IntKind.wrap .i64 (i+1)) (out++e2)
    else none
   else
    kE l most n (IntKind.wrap .i64 (i+1)) out
   else none
   else none
  else
   bif ((out.length:Int)==0) then
    bif (aD 8 1 out.length 1) then
    (mj (out++([0]:List Int))).bind fun r3=>
    some r3.1
    else none
   else
    (mj out).bind fun r4=>
    some r4.1
 else
  bif ((out.length:Int)==0) then
   bif (aD 8 1 out.length 1) then
   (mj (out++([0]:List Int))).bind fun r5=>
   some r5.1
   else none
  else
   (mj out).bind fun r6=>
   some r6.1
theorem vO (l most n i out):gh l most n i out=pj gh o6 iK l most n i out:=(l1 93 0 _).trans (by kernel_rfl)
def Ca (kE:af gh)(l:List Int)(most:Int)(n:Int):Option (List Int):=
 kE l most n 0 ([]:List Int)
theorem KJ (l most n):ri l most n=Ca gh l most n:=(e1 93 _).trans (by kernel_rfl)
def sn (so:af iI)(z8:af o6)(a:List Int)(b:List Int)(i:Int):Option (Bool):=
 bif (decide (i<(b.length:Int))) then
  (idx b i).bind fun v0=>
  (z8 a v0).bind fun r1=>
  bif (!r1) then
   some false
  else
   so a b (IntKind.wrap .i64 (i+1))
 else
  some true
theorem zf (a b i):iI a b i=sn iI o6 a b i:=(l1 97 0 _).trans (by kernel_rfl)
def Fy (so:af iI)(a:List Int)(b:List Int):Option (Bool):=
 so a b 0
theorem Oe (a b):vm a b=Fy iI a b:=(e1 97 _).trans (by kernel_rfl)
def dC (iQ:af bH)(s:List Int)(k:Int)(i:Int)(out:List Int):Option (List Int):=
 bif (decide (i<(s.length:Int))) then
  bif (i != k) then
   (idx s i).bind fun v0=>
   bif (aD 8 1 out.length 1) then
   iQ s k (IntKind.wrap .i64 (i+1)) (out++([v0]:List Int))
   else none
  else
   iQ s k (IntKind.wrap .i64 (i+1)) out
 else
  some out
theorem fa (s k i out):bH s k i out=dC bH s k i out:=(l1 101 0 _).trans (by kernel_rfl)
def qF (iQ:af bH)(s:List Int)(k:Int):Option (List Int):=
 iQ s k 0 ([]:List Int)
theorem w9 (s k):gX s k=qF bH s k:=(e1 101 _).trans (by kernel_rfl)
def tL (tM:af jO)(a:List Int)(v:Int)(i:Int):Option (Bool):=
 bif (decide (i<(a.length:Int))) then
  (idx a i).bind fun v0=>
  bif (v0==v) then
   some true
  else
   tM a v (IntKind.wrap .i64 (i+1))
 else
  some false
theorem As (a v i):jO a v i=tL jO a v i:=(l1 134 0 _).trans (by kernel_rfl)
def Hw (tM:af jO)(a:List Int)(v:Int):Option (Bool):=
 tM a v 0
theorem PK (a v):o6 a v=Hw jO a v:=(e1 134 _).trans (by kernel_rfl)
def nQ (nR:af fB)(n:Int)(i:Int)(out:List Int):Option ((List Int)×Int):=
 bif (decide (i<(out.length:Int))) then
  nR n i i out
 else
  some (out,n)
theorem uy (n i out):dJ n i out=nQ fB n i out:=(l1 135 0 _).trans (by kernel_rfl)
def nS (nR:af fB)(jn:af dJ)(n:Int)(i:Int)(k:Int)(out:List Int):Option ((List Int)×Int):=
 bif (decide (k>0)) then
  (idx out (IntKind.wrap .i64 (k - 1))).bind fun _=>
  (out[(IntKind.wrap .i64 (k - 1)).toNat]?).bind fun v0=>
  (idx out k).bind fun _=>
  (out[k.toNat]?).bind fun v1=>
  bif (decide (v0>v1)) then
   (idx out k).bind fun _=>
   (out[k.toNat]?).bind fun v2=>
   (idx out (IntKind.wrap .i64 (k - 1))).bind fun _=>
   (out[(IntKind.wrap .i64 (k - 1)).toNat]?).bind fun v3=>
   (idx out (IntKind.wrap .i64 (k - 1))).bind fun _=>
   (out[(IntKind.wrap .i64 (k - 1)).toNat]?).bind fun v4=>
   let e5:List Int:=(out.set (IntKind.wrap .i64 (k - 1)).toNat v2)
   (idx e5 k).bind fun _=>
   (e5[k.toNat]?).bind fun v6=>
   nR (IntKind.wrap .i64 (1 - n)) i (IntKind.wrap .i64 (k - 1)) (e5.set k.toNat v3)
  else
   jn n (IntKind.wrap .i64 (i+1)) out
 else
  jn n (IntKind.wrap .i64 (i+1)) out
theorem uz (n i k out):fB n i k out=nS fB dJ n i k out:=(l1 135 1 _).trans (by kernel_rfl)
def Au (jn:af dJ)(l:List Int):Option ((List Int)×Int):=
 bif (aD 8 1 0 l.length) then
 jn 0 0 (([]:List Int)++l)
 else none
theorem Jg (l):iK l=Au dJ l:=(e1 135 _).trans (by kernel_rfl)
def xd (kF:af gm)(s:List Int)(m:Int)(out:List (List Int)):Option (List (List Int)):=
 bif (decide (0≤(s.length:Int))) then
 bif (decide (m<(shl .i64 1 (s.length:Int)))) then
  kF s m 0 out ([]:List Int)
 else
  some out
 else none
theorem GZ (s m out):rS s m out=xd gm s m out:=(l1 136 0 _).trans (by kernel_rfl)
def pk (kF:af gm)(nT:af cQ)(gZ:af eZ)(s:List Int)(m:Int)(i:Int)(out:List (List Int))(f:List Int):Option (List (List Int)):=
 bif (decide (i<(s.length:Int))) then
  bif (decide (0≤i)) then
  bif (((shr .i64 m i).tmod 2)==1) then
   (idx s i).bind fun v0=>
   bif (aD 8 1 f.length 1) then
   kF s m (IntKind.wrap .i64 (i+1)) out (f++([v0]:List Int))
   else none
  else
   kF s m (IntKind.wrap .i64 (i+1)) out f
  else none
 else
  (gZ out f).bind fun r1=>
  nT s r1 (IntKind.wrap .i64 (m+1))
theorem vP (s m i out f):gm s m i out f=pk gm cQ eZ s m i out f:=(l1 136 1 _).trans (by kernel_rfl)
def nU (jo:af fC)(s:List Int)(out:List (List Int))(m:Int):Option (List (List Int)):=
 bif (decide (0≤(s.length:Int))) then
 bif (decide (m<(shl .i64 1 (s.length:Int)))) then
  jo s out m 0 ([]:List Int)
 else
  some out
 else none
theorem uA (s out m):cQ s out m=nU fC s out m:=(l1 136 0 _).trans (by kernel_rfl)
def nV (jo:af fC)(nT:af cQ)(gZ:af eZ)(s:List Int)(out:List (List Int))(m:Int)(i:Int)(f:List Int):Option (List (List Int)):=
 bif (decide (i<(s.length:Int))) then
  bif (decide (0≤i)) then
  bif (((shr .i64 m i).tmod 2)==1) then
   (idx s i).bind fun v0=>
   bif (aD 8 1 f.length 1) then
   jo s out m (IntKind.wrap .i64 (i+1)) (f++([v0]:List Int))
   else none
  else
   jo s out m (IntKind.wrap .i64 (i+1)) f
  else none
 else
  (gZ out f).bind fun r1=>
  nT s r1 (IntKind.wrap .i64 (m+1))
theorem uB (s out m i f):fC s out m i f=nV fC cQ eZ s out m i f:=(l1 136 1 _).trans (by kernel_rfl)
def Cb (HZ:af rS)(s:List Int):Option (List (List Int)):=
 HZ s 1 ([]:List (List Int))
theorem KK (s):jP s=Cb rS s:=(e1 136 _).trans (by kernel_rfl)
def sq (i7:af iL)(aY:af aT)(l:List (List Int))(s:List Int)(done:Bool)(i:Int)(out:List (List Int)):Option (List (List Int)):=
 bif (decide (i<(l.length:Int))) then
  (idx l i).bind fun v0=>
  (aY s v0).bind fun r1=>
  bif (r1==0) then
   some l
  else
   bif (decide (r1<0)) then
    bif (!done) then
     bif (aD 24 1 out.length 1) then
     (idx l i).bind fun v2=>
     bif (aD 24 1 (out++([s]:List (List Int))).length 1) then
     let e3:List (List Int):=((out++([s]:List (List Int)))++([v2]:List (List Int)))
     i7 l s true (IntKind.wrap .i64 (i+1)) e3
     else none
     else none
    else
     (idx l i).bind fun v4=>
     bif (aD 24 1 out.length 1) then
     i7 l s done (IntKind.wrap .i64 (i+1)) (out++([v4]:List (List Int)))
     else none
   else
    (idx l i).bind fun v5=>
    bif (aD 24 1 out.length 1) then
    i7 l s done (IntKind.wrap .i64 (i+1)) (out++([v5]:List (List Int)))
    else none
 else
  bif (!done) then
   bif (aD 24 1 out.length 1) then
   some (out++([s]:List (List Int)))
   else none
  else
   some out
theorem zg (l s done i out):iL l s done i out=sq iL aT l s done i out:=(l1 137 0 _).trans (by kernel_rfl)
def Fz (i7:af iL)(l:List (List Int))(s:List Int):Option (List (List Int)):=
 i7 l s false 0 ([]:List (List Int))
theorem Of (l s):eZ l s=Fz iL l s:=(e1 137 _).trans (by kernel_rfl)
def kG (pn:af dh)(po:af di)(s:List Int)(i:Int):Option (Int):=
 bif (decide (i<(s.length:Int))) then
  (idx s i).bind fun v0=>
  bif (decide (v0<0)) then
   some 1
  else
   (idx s i).bind fun v1=>
   bif (decide (v1≥64)) then
    some 1
   else
    pn s (IntKind.wrap .i64 (i+1))
 else
  po s 1
theorem nW (s i):dh s i=kG dh di s i:=(l1 140 0 _).trans (by kernel_rfl)
def kH (po:af di)(s:List Int)(i:Int):Option (Int):=
 bif (decide (i<(s.length:Int))) then
  (idx s i).bind fun v0=>
  (idx s (IntKind.wrap .i64 (i - 1))).bind fun v1=>
  bif (decide (v0≤v1)) then
   some 6
  else
   po s (IntKind.wrap .i64 (i+1))
 else
  some 0
theorem nX (s i):di s i=kH di s i:=(l1 140 1 _).trans (by kernel_rfl)
def tN (pn:af dh)(s:List Int):Option (Int):=
 bif ((s.length:Int)==0) then
  some 1
 else
  bif (decide ((s.length:Int)>5)) then
   some 3
  else
   pn s 0
theorem Av (s):fD s=tN dh s:=(e1 140 _).trans (by kernel_rfl)
end
end Go.Proofs.YtofjebmoebhiiaaGreatDoor.Ev
namespace Go.Proofs.YtofjebmoebhiiaaGreatDoor.Ev
open Go.Abs
noncomputable section
def pq (pr:af gd)(l:List (List Int))(i:Int)(out:List (List Int)):Option (List (List Int)):=
 bif (decide (i<(l.length:Int))) then
  (idx l i).bind fun v0=>
  bif (aD 8 1 0 v0.length) then
  bif (aD 24 1 out.length 1) then
  let e1:List (List Int):=(out++([(([]:List Int)++v0)]:List (List Int)))
  pr l (IntKind.wrap .i64 (i+1)) e1
  else none
  else none
 else
  some out
theorem vQ (l i out):gd l i out=pq gd l i out:=(l1 53 0 _).trans (by kernel_rfl)
def Cc (pr:af gd)(l:List (List Int)):Option (List (List Int)):=
 pr l 0 ([]:List (List Int))
theorem KL (l):q9 l=Cc gd l:=(e1 53 _).trans (by kernel_rfl)
def pw (px:af gf)(kI:af eE)(MH:af ri)(Aw:af lk)(l:List (List Int))(most:Int)(QE:Int)(n:Int)(i:Int)(QF:List (List Int)):Option (List (List Int)):=
 bif (decide (i<(l.length:Int))) then
  bif (decide (i<most)) then
   (idx l i).bind fun v0=>
   (MH v0 (IntKind.wrap .i64 (QE+1)) n).bind fun r1=>
   bif (aD 24 1 QF.length 1) then
   px l most QE n (IntKind.wrap .i64 (i+1)) (QF++([r1]:List (List Int)))
   else none
  else
   (Aw QF).bind fun r2=>
   kI r2 (r2.length:Int) 0 ([]:List (List Int))
 else
  (Aw QF).bind fun r3=>
  kI r3 (r3.length:Int) 0 ([]:List (List Int))
theorem vR (l most QE n i QF):gf l most QE n i QF=pw gf eE ri lk l most QE n i QF:=(l1 54 0 _).trans (by kernel_rfl)
def py (kI:af eE)(t:List (List Int))(t2:Int)(t3:Int)(out:List (List Int)):Option (List (List Int)):=
 bif (decide (t3<t2)) then
  (idx t t3).bind fun v0=>
  bif (aD 24 1 out.length 1) then
  kI t t2 (IntKind.wrap .i64 (t3+1)) (out++([v0]:List (List Int)))
  else none
 else
  some out
theorem vS (t t2 t3 out):eE t t2 t3 out=py eE t t2 t3 out:=(l1 54 1 _).trans (by kernel_rfl)
def Cd (px:af gf)(l:List (List Int))(most:Int)(QE:Int)(n:Int):Option (List (List Int)):=
 px l most QE n 0 ([]:List (List Int))
theorem KM (l most QE n):ra l most QE n=Cd gf l most QE n:=(e1 54 _).trans (by kernel_rfl)
def nY (G0:af qq)(tO:af jP)(l:List (List Int))(i:Int)(out:List (List Int)):Option (List (List Int)):=
 bif (decide (i<(l.length:Int))) then
  (idx l i).bind fun v0=>
  (tO v0).bind fun r1=>
  G0 l i r1 0 out
 else
  some out
theorem uD (l i out):fy l i out=nY qq jP l i out:=(l1 94 0 _).trans (by kernel_rfl)
def vT (fF:af cm)(nZ:af fy)(gZ:af eZ)(l:List (List Int))(i:Int)(f:List (List Int))(k:Int)(out:List (List Int)):Option (List (List Int)):=
 bif (decide (k<(f.length:Int))) then
  (idx f k).bind fun v0=>
  (gZ out v0).bind fun r1=>
  fF l r1 i f (IntKind.wrap .i64 (k+1))
 else
  nZ l (IntKind.wrap .i64 (i+1)) out
theorem FA (l i f k out):qq l i f k out=vT cm fy eZ l i f k out:=(l1 94 1 _).trans (by kernel_rfl)
def mU (fF:af cm)(FB:af gK)(gZ:af eZ)(l:List (List Int))(out:List (List Int))(i:Int)(f:List (List Int))(k:Int):Option (List (List Int)):=
 bif (decide (k<(f.length:Int))) then
  (idx f k).bind fun v0=>
  (gZ out v0).bind fun r1=>
  fF l r1 i f (IntKind.wrap .i64 (k+1))
 else
  FB l out (IntKind.wrap .i64 (i+1))
theorem sX (l out i f k):cm l out i f k=mU cm gK eZ l out i f k:=(l1 94 1 _).trans (by kernel_rfl)
def mV (fF:af cm)(tO:af jP)(l:List (List Int))(out:List (List Int))(i:Int):Option (List (List Int)):=
 bif (decide (i<(l.length:Int))) then
  (idx l i).bind fun v0=>
  (tO v0).bind fun r1=>
  fF l out i r1 0
 else
  some out
theorem sY (l out i):gK l out i=mV cm jP l out i:=(l1 94 0 _).trans (by kernel_rfl)
def Ax (nZ:af fy)(l:List (List Int)):Option (List (List Int)):=
 nZ l 0 ([]:List (List Int))
theorem Jh (l):lk l=Ax fy l:=(e1 94 _).trans (by kernel_rfl)
def pz (eU:af gj)(tP:af fD)(aY:af aT)(bO:af bB)(l:List (List Int))(i:Int):Option (Int):=
 bif (decide (i<(l.length:Int))) then
  (idx l i).bind fun v0=>
  (tP v0).bind fun r1=>
  bif (r1 != 0) then
   some r1
  else
   bif (decide (i>0)) then
    (idx l i).bind fun v2=>
    (idx l (IntKind.wrap .i64 (i - 1))).bind fun v3=>
    (aY v2 v3).bind fun r4=>
    bif (r4==0) then
     some 5
    else
     bif (decide (i>0)) then
      (idx l i).bind fun v5=>
      (idx l (IntKind.wrap .i64 (i - 1))).bind fun v6=>
      (aY v5 v6).bind fun r7=>
      bif (decide (r7<0)) then
       some 6
      else
       (idx l i).bind fun v8=>
       (bO v8).bind fun r9=>
       eU l i r9 0
     else
      (idx l i).bind fun v10=>
      (bO v10).bind fun r11=>
      eU l i r11 0
   else
    bif (decide (i>0)) then
     (idx l i).bind fun v12=>
     (idx l (IntKind.wrap .i64 (i - 1))).bind fun v13=>
     (aY v12 v13).bind fun r14=>
     bif (decide (r14<0)) then
      some 6
     else
      (idx l i).bind fun v15=>
      (bO v15).bind fun r16=>
      eU l i r16 0
    else
     (idx l i).bind fun v17=>
     (bO v17).bind fun r18=>
     eU l i r18 0
 else
  some 0
theorem vU (l i):eG l i=pz gj fD aT bB l i:=(l1 96 0 _).trans (by kernel_rfl)
def pA (eU:af gj)(pB:af eG)(MI:af rk)(l:List (List Int))(i:Int)(f:List (List Int))(k:Int):Option (Int):=
 bif (decide (k<(f.length:Int))) then
  (idx f k).bind fun v0=>
  (MI l v0).bind fun r1=>
  bif (decide (r1<0)) then
   some 7
  else
   eU l i f (IntKind.wrap .i64 (k+1))
 else
  pB l (IntKind.wrap .i64 (i+1))
theorem vV (l i f k):gj l i f k=pA gj eG rk l i f k:=(l1 96 1 _).trans (by kernel_rfl)
def Cf (pB:af eG)(l:List (List Int)):Option (Int):=
 bif (decide ((l.length:Int)>1024)) then
  some 3
 else
  pB l 0
theorem KN (l):rj l=Cf eG l:=(e1 96 _).trans (by kernel_rfl)
def xe (pC:af gp)(aY:af aT)(l:List (List Int))(s:List Int)(i:Int):Option (Int):=
 bif (decide (i<(l.length:Int))) then
  (idx l i).bind fun v0=>
  (aY v0 s).bind fun r1=>
  bif (r1==0) then
   some i
  else
   pC l s (IntKind.wrap .i64 (i+1))
 else
  some (-1)
theorem G1 (l s i):gp l s i=xe gp aT l s i:=(l1 141 0 _).trans (by kernel_rfl)
def Cg (pC:af gp)(l:List (List Int))(s:List Int):Option (Int):=
 pC l s 0
theorem KO (l s):rk l s=Cg gp l s:=(e1 141 _).trans (by kernel_rfl)
end
end Go.Proofs.YtofjebmoebhiiaaGreatDoor.Ev
namespace Go.Proofs.YtofjebmoebhiiaaGreatDoor.Ev
open Go.Abs
noncomputable section
def pD (kJ:af fZ)(Ch:af rb)(Ro:af ym)(values:List Int)(c:List (List Int))(i:Int)(Uf:List ByteArray):Option (List ((List Int)×ByteArray×Unit)):=
 bif (decide (i<(c.length:Int))) then
  bif (decide ((values.length:Int)>0)) then
   bif (!((values.length:Int)==0)) then
   (idx values (i.tmod (values.length:Int))).bind fun v0=>
   bif (!((values.length:Int)==0)) then
   let e1:Int:=(IntKind.wrap .i64 (i.tdiv (values.length:Int)))
   (Ch (IntKind.wrap .i64 (v0+e1))).bind fun r2=>
   bif (aD 16 1 Uf.length 1) then
   kJ values c (IntKind.wrap .i64 (i+1)) (Uf++([r2]:List ByteArray))
   else none
   else none
   else none
  else
   (Ch i).bind fun r3=>
   bif (aD 16 1 Uf.length 1) then
   kJ values c (IntKind.wrap .i64 (i+1)) (Uf++([r3]:List ByteArray))
   else none
 else
  (Ro c Uf).bind fun r4=>
  some r4.1
theorem vW (values c i Uf):fZ values c i Uf=pD fZ rb ym values c i Uf:=(l1 32 0 _).trans (by kernel_rfl)
def Ci (kJ:af fZ)(MJ:af ra)(MK:af q9)(l:List (List Int))(values:List Int)(most:Int)(QE:Int)(n:Int):Option (List ((List Int)×ByteArray×Unit)):=
 (MJ l most QE n).bind fun r0=>
 (MK r0).bind fun r1=>
 kJ values r1 0 ([]:List ByteArray)
theorem KP (l values most QE n):q6 l values most QE n=Ci fZ ra q9 l values most QE n:=(e1 32 _).trans (by kernel_rfl)
def Cj (Ia:af gi)(n:Int):Option (ByteArray):=
 let e0:Int:=(IntKind.wrap .i64 ((n.tmod 24)+24))
 let e1:Int:=(IntKind.wrap .i64 ((e0.tmod 24) - 8))
 (Ia e1 4).bind fun r2=>
 some r2
theorem KQ (n):rb n=Cj gi n:=(e1 55 _).trans (by kernel_rfl)
def tQ (tR:af jL)(tS:af gV)(kc:af c9)(l:List (List Int))(values:List ByteArray)(i:Int):Option ((List ((List Int)×ByteArray×Unit))×Int):=
 bif (decide (i<(values.length:Int))) then
  (idx values i).bind fun v0=>
  (kc v0).bind fun r1=>
  bif (!r1) then
   some (([]:List ((List Int)×ByteArray×Unit)),(1:Int))
  else
   tR l values (IntKind.wrap .i64 (i+1))
 else
  tS l values 0 ([]:List ((List Int)×ByteArray×Unit))
theorem Ay (l values i):jL l values i=tQ jL gV c9 l values i:=(l1 56 0 _).trans (by kernel_rfl)
def tT (kd:af jM)(KR:af ll)(l:List (List Int))(values:List ByteArray)(i:Int)(out:List ((List Int)×ByteArray×Unit)):Option ((List ((List Int)×ByteArray×Unit))×Int):=
 bif (decide (i<(l.length:Int))) then
  (idx values i).bind fun v0=>
  kd l values i v0 0 out
 else
  (KR out).bind fun r1=>
  some (r1,(0:Int))
theorem Az (l values i out):gV l values i out=tT jM ll l values i out:=(l1 56 1 _).trans (by kernel_rfl)
def tU (kd:af jM)(tS:af gV)(PL:af vm)(dT:af aX)(l:List (List Int))(values:List ByteArray)(i:Int)(Uf:ByteArray)(k:Int)(out:List ((List Int)×ByteArray×Unit)):Option ((List ((List Int)×ByteArray×Unit))×Int):=
 bif (decide (k<(l.length:Int))) then
  (idx l i).bind fun v0=>
  (idx l k).bind fun v1=>
  (PL v0 v1).bind fun r2=>
  bif r2 then
   (idx values k).bind fun v3=>
   (dT v3 Uf).bind fun r4=>
   bif (decide (r4>0)) then
    (idx values k).bind fun v5=>
    kd l values i v5 (IntKind.wrap .i64 (k+1)) out
   else
    kd l values i Uf (IntKind.wrap .i64 (k+1)) out
  else
   kd l values i Uf (IntKind.wrap .i64 (k+1)) out
 else
  (idx l i).bind fun v6=>
  let e7:List ((List Int)×ByteArray×Unit):=([(v6,(Uf,()))]:List ((List Int)×ByteArray×Unit))
  bif (aD 40 2 out.length 1) then
  tS l values (IntKind.wrap .i64 (i+1)) (out++e7)
  else none
theorem AA (l values i Uf k out):jM l values i Uf k out=tU jM gV vm aX l values i Uf k out:=(l1 56 2 _).trans (by kernel_rfl)
def Hx (tR:af jL)(ML:af rj)(l:List (List Int))(values:List ByteArray):Option ((List ((List Int)×ByteArray×Unit))×Int):=
 (ML l).bind fun r0=>
 bif (r0 != 0) then
  some (([]:List ((List Int)×ByteArray×Unit)),r0)
 else
  bif ((values.length:Int) != (l.length:Int)) then
   some (([]:List ((List Int)×ByteArray×Unit)),(10:Int))
  else
   tR l values 0
theorem PM (l values):ym l values=Hx jL rj l values:=(e1 56 _).trans (by kernel_rfl)
def kK (pE:af dd)(Oh:af kY)(bO:af bB)(f:List ((List Int)×ByteArray×Unit))(i:Int):Option (Int):=
 bif (decide (i<(f.length:Int))) then
  (Oh f i).bind fun r0=>
  bif (r0 != 0) then
   some r0
  else
   (idx f i).bind fun v1=>
   (bO v1.1).bind fun r2=>
   pE f i r2 0
 else
  some 0
theorem oa (f i):cw f i=kK dd kY bB f i:=(l1 57 0 _).trans (by kernel_rfl)
def kL (pE:af dd)(kM:af cw)(tV:af ef)(dT:af aX)(f:List ((List Int)×ByteArray×Unit))(i:Int)(b6:List (List Int))(k:Int):Option (Int):=
 bif (decide (k<(b6.length:Int))) then
  (idx b6 k).bind fun v0=>
  (tV f i v0).bind fun r1=>
  bif (decide (r1<0)) then
   some 7
  else
   pE f i b6 (IntKind.wrap .i64 (k+1))
 else
  bif (decide (i>0)) then
   (idx f i).bind fun v2=>
   (idx f (IntKind.wrap .i64 (i - 1))).bind fun v3=>
   (dT v2.2.1 v3.2.1).bind fun r4=>
   bif (decide (r4<0)) then
    some 6
   else
    kM f (IntKind.wrap .i64 (i+1))
  else
   kM f (IntKind.wrap .i64 (i+1))
theorem oc (f i b6 k):dd f i b6 k=kL dd cw ef aX f i b6 k:=(l1 57 1 _).trans (by kernel_rfl)
def tW (kM:af cw)(f:List ((List Int)×ByteArray×Unit)):Option (Int):=
 bif (decide ((f.length:Int)>1024)) then
  some 3
 else
  kM f 0
theorem AB (f):jN f=tW cw f:=(e1 57 _).trans (by kernel_rfl)
def od (jq:af dH)(out:Nat)(i:Int)(aC:H4)(ko:H8):Option (List ((List Int)×ByteArray×Unit)):=
 (ah ko out).bind fun v0=>
 bif (decide (i<(v0.length:Int))) then
  jq out i i aC ko
 else
  (typed (hs [] [] [] [] aC [] [] [] ko []) (.slice (.st (.pair (.slice (.int .i64)) (.pair (.str) (.unit))))) (.rv (.cv ⟨.ref 8,out⟩))).bind fun v1=>
  some v1
theorem uE (out i aC ko):bu out i aC ko=od dH out i aC ko:=(l1 98 0 _).trans (by kernel_rfl)
def oe (fS:af bu)(jq:af dH)(dT:af aX)(aY:af aT)(out:Nat)(i:Int)(k:Int)(aC:H4)(ko:H8):Option (List ((List Int)×ByteArray×Unit)):=
 bif (decide (k>0)) then
  (ah ko out).bind fun v0=>
  (idx v0 k).bind fun _=>
  (ah ko out).bind fun v1=>
  (v1[k.toNat]?).bind fun v2=>
  (ah ko out).bind fun v3=>
  (idx v3 (IntKind.wrap .i64 (k - 1))).bind fun _=>
  (ah ko out).bind fun v4=>
  (v4[(IntKind.wrap .i64 (k - 1)).toNat]?).bind fun v5=>
  (dT v2.2.1 v5.2.1).bind fun r6=>
  bif (decide (r6>0)) then
   fS out (IntKind.wrap .i64 (i+1)) aC ko
  else
   bif (r6==0) then
    (ah ko out).bind fun v7=>
    (idx v7 k).bind fun _=>
    (ah ko out).bind fun v8=>
    (v8[k.toNat]?).bind fun v9=>
    (ah ko out).bind fun v10=>
    (idx v10 (IntKind.wrap .i64 (k - 1))).bind fun _=>
    (ah ko out).bind fun v11=>
    (v11[(IntKind.wrap .i64 (k - 1)).toNat]?).bind fun v12=>
    (typed (hs [] [] [] [] aC [] [] [] ko []) (.slice (.int .i64)) (.rv (.cv ⟨.ref 4,v9.1⟩))).bind fun v13=>
    (typed (hs [] [] [] [] aC [] [] [] ko []) (.slice (.int .i64)) (.rv (.cv ⟨.ref 4,v12.1⟩))).bind fun v14=>
    (aY v13 v14).bind fun r15=>
    bif (decide (r15>0)) then
     fS out (IntKind.wrap .i64 (i+1)) aC ko
    else
     (ah ko out).bind fun v16=>
     (idx v16 (IntKind.wrap .i64 (k - 1))).bind fun _=>
     (ah ko out).bind fun v17=>
     (v17[(IntKind.wrap .i64 (k - 1)).toNat]?).bind fun v18=>
     (ah ko out).bind fun v19=>
     (idx v19 k).bind fun _=>
     (ah ko out).bind fun v20=>
     (v20[k.toNat]?).bind fun v21=>
     (ah ko out).bind fun v22=>
     (idx v22 k).bind fun _=>
     (ah ko out).bind fun v23=>
     (v23[k.toNat]?).bind fun v24=>
     let e25:H8:=(je ko out (v23.set k.toNat (v18.1,(v18.2.1,()))))
     (ah e25 out).bind fun v26=>
     (idx v26 (IntKind.wrap .i64 (k - 1))).bind fun _=>
     (ah e25 out).bind fun v27=>
     (v27[(IntKind.wrap .i64 (k - 1)).toNat]?).bind fun v28=>
     let e29:H8:=(je e25 out (v27.set (IntKind.wrap .i64 (k - 1)).toNat (v21.1,(v21.2.1,()))))
     jq out i (IntKind.wrap .i64 (k - 1)) aC e29
   else
    (ah ko out).bind fun v30=>
    (idx v30 (IntKind.wrap .i64 (k - 1))).bind fun _=>
    (ah ko out).bind fun v31=>
    (v31[(IntKind.wrap .i64 (k - 1)).toNat]?).bind fun v32=>
    (ah ko out).bind fun v33=>
    (idx v33 k).bind fun _=>
    (ah ko out).bind fun v34=>
    (v34[k.toNat]?).bind fun v35=>
    (ah ko out).bind fun v36=>
    (idx v36 k).bind fun _=>
    (ah ko out).bind fun v37=>
    (v37[k.toNat]?).bind fun v38=>
    let e39:H8:=(je ko out (v37.set k.toNat (v32.1,(v32.2.1,()))))
    (ah e39 out).bind fun v40=>
    (idx v40 (IntKind.wrap .i64 (k - 1))).bind fun _=>
    (ah e39 out).bind fun v41=>
    (v41[(IntKind.wrap .i64 (k - 1)).toNat]?).bind fun v42=>
    let e43:H8:=(je e39 out (v41.set (IntKind.wrap .i64 (k - 1)).toNat (v35.1,(v35.2.1,()))))
    jq out i (IntKind.wrap .i64 (k - 1)) aC e43
 else
  fS out (IntKind.wrap .i64 (i+1)) aC ko
theorem uF (out i k aC ko):dH out i k aC ko=oe bu dH aX aT out i k aC ko:=(l1 98 1 _).trans (by kernel_rfl)
def AD (fS:af bu)(KS:af qa)(l:List ((List Int)×ByteArray×Unit)):Option (List ((List Int)×ByteArray×Unit)):=
 (KS l ([]:H8) ([]:H4)).bind fun r0=>
 fS r0.1 0 r0.2.2 r0.2.1
theorem Ji (l):ll l=AD bu qa l:=(e1 98 _).trans (by kernel_rfl)
def vX (tP:af fD)(kc:af c9)(tV:af ef)(f:List ((List Int)×ByteArray×Unit))(i:Int):Option (Int):=
 (idx f i).bind fun v0=>
 (tP v0.1).bind fun r1=>
 bif (r1 != 0) then
  some r1
 else
  (idx f i).bind fun v2=>
  (kc v2.2.1).bind fun r3=>
  bif (!r3) then
   some 1
  else
   (idx f i).bind fun v4=>
   (tV f i v4.1).bind fun r5=>
   bif (decide (r5≥0)) then
    some 5
   else
    some 0
theorem Ck (f i):kY f i=vX fD c9 ef f i:=(e1 99 _).trans (by kernel_rfl)
def kN (pF:af cz)(aY:af aT)(f:List ((List Int)×ByteArray×Unit))(n:Int)(s:List Int)(i:Int):Option (Int):=
 bif (decide (i<n)) then
  (idx f i).bind fun v0=>
  (aY v0.1 s).bind fun r1=>
  bif (r1==0) then
   some i
  else
   pF f n s (IntKind.wrap .i64 (i+1))
 else
  some (-1)
theorem og (f n s i):cz f n s i=kN cz aT f n s i:=(l1 100 0 _).trans (by kernel_rfl)
def oh (pF:af cz)(f:List ((List Int)×ByteArray×Unit))(n:Int)(s:List Int):Option (Int):=
 pF f n s 0
theorem sr (f n s):ef f n s=oh cz f n s:=(e1 100 _).trans (by kernel_rfl)
def oi (eA:af fE)(l:List ((List Int)×ByteArray×Unit))(out:Nat)(i:Int)(aC:H4)(ko:H8):Option ((Nat)×H8×H4):=
 bif (decide (i<(l.length:Int))) then
  (idx l i).bind fun v0=>
  (ah (aC++[some ([]:List Int)]) (aC.length+1:Nat)).bind fun v1=>
  bif (aD 8 1 v1.length v0.1.length) then
  bif v0.1.isEmpty then
   (idx l i).bind fun v2=>
   let e3:H8:=(ko++[some ([((aC.length+1:Nat),(v2.2.1,()))]:List (Nat×ByteArray×Unit))])
   (ah e3 out).bind fun v4=>
   (ah e3 (ko.length+1:Nat)).bind fun v5=>
   bif (aD 40 2 v4.length v5.length) then
   bif v5.isEmpty then
    eA l out (IntKind.wrap .i64 (i+1)) (aC++[some ([]:List Int)]) e3
   else
    eA l ((dF e3 out).length+1:Nat) (IntKind.wrap .i64 (i+1)) (aC++[some ([]:List Int)]) ((dF e3 out)++[some (v4++v5)])
   else none
  else
   let e6:H4:=((dF (aC++[some ([]:List Int)]) (aC.length+1:Nat))++[some (v1++v0.1)])
   let e7:Nat:=((dF (aC++[some ([]:List Int)]) (aC.length+1:Nat)).length+1:Nat)
   (idx l i).bind fun v8=>
   let e9:H8:=(ko++[some ([(e7,(v8.2.1,()))]:List (Nat×ByteArray×Unit))])
   (ah e9 out).bind fun v10=>
   (ah e9 (ko.length+1:Nat)).bind fun v11=>
   bif (aD 40 2 v10.length v11.length) then
   bif v11.isEmpty then
    eA l out (IntKind.wrap .i64 (i+1)) e6 e9
   else
    eA l ((dF e9 out).length+1:Nat) (IntKind.wrap .i64 (i+1)) e6 ((dF e9 out)++[some (v10++v11)])
   else none
  else none
 else
  some (out,(ko,aC))
theorem uG (l out i aC ko):fE l out i aC ko=oi fE l out i aC ko:=(l1 142 0 _).trans (by kernel_rfl)
def AE (eA:af fE)(l:List ((List Int)×ByteArray×Unit))(ko:H8)(aC:H4):Option ((Nat)×H8×H4):=
 eA l (0:Nat) 0 aC ko
theorem Jj (l ko aC):qa l ko aC=AE fE l ko aC:=(e1 142 _).trans (by kernel_rfl)
end
end Go.Proofs.YtofjebmoebhiiaaGreatDoor.Ev
namespace Go.Proofs.YtofjebmoebhiiaaGreatDoor.Ev
open Go.Abs
noncomputable section
def pG (pH:af fX)(n:Int)(x:List (List Int))(x2:List Int)(x3:Int)(x4:List Int)(t:Int)(t2:Nat)(c:Int)(c2:qX):Option jY:=
 bif (decide ((IntKind.wrap .i64 (n+2))<(x4.length:Int))) then
  bif (decide (n<24)) then
   bif (decide ((c2.length:Int)>0)) then
    (idx x4 n).bind fun v0=>
    bif (!((c2.length:Int)==0)) then
    let e1:Int:=(IntKind.wrap .i64 ((v0.tmod (c2.length:Int))+(c2.length:Int)))
    bif (!((c2.length:Int)==0)) then
    (idx x4 (IntKind.wrap .i64 (n+1))).bind fun v2=>
    bif (!((IntKind.wrap .i64 (c - 1))==0)) then
    let e3:Int:=(IntKind.wrap .i64 ((v2.tmod (IntKind.wrap .i64 (c - 1)))+c))
    bif (!((IntKind.wrap .i64 (c - 1))==0)) then
    let e4:Int:=((IntKind.wrap .i64 (e3 - 1)).tmod (IntKind.wrap .i64 (c - 1)))
    let e5:Int:=(IntKind.wrap .i64 ((e1.tmod (c2.length:Int)) - 1))
    pH n (e1.tmod (c2.length:Int)) (IntKind.wrap .i64 (1+e4)) e5 x x2 x3 x4 t t2 c c2
    else none
    else none
    else none
    else none
   else
    some (c,(c2,()))
  else
   some (c,(c2,()))
 else
  some (c,(c2,()))
theorem vY (n x x2 x3 x4 t t2 c c2):eB n x x2 x3 x4 t t2 c c2=pG fX n x x2 x3 x4 t t2 c c2:=(l1 14 0 _).trans (by kernel_rfl)
def pI (pH:af fX)(eV:af eB)(DN:af tg)(n:Int)(j:Int)(k:Int)(i:Int)(x:List (List Int))(x2:List Int)(x3:Int)(x4:List Int)(t:Int)(t2:Nat)(c:Int)(c2:qX):Option jY:=
 bif (decide (i≥0)) then
  (idx c2 i).bind fun v0=>
  (idx c2 j).bind fun v1=>
  bif (v0.1 != v1.1) then
   pH n j k (IntKind.wrap .i64 (i - 1)) x x2 x3 x4 t t2 c c2
  else
   bif (decide (i≥0)) then
    (idx x4 (IntKind.wrap .i64 (n+2))).bind fun v2=>
    bif (!(c==0)) then
    bif (!(c==0)) then
    (DN (c,(c2,())) i j k ((IntKind.wrap .i64 ((v2.tmod c)+c)).tmod c)).bind fun r3=>
    eV (IntKind.wrap .i64 (n+3)) x x2 x3 x4 t t2 r3.1 r3.2.1
    else none
    else none
   else
    eV (IntKind.wrap .i64 (n+3)) x x2 x3 x4 t t2 c c2
 else
  bif (decide (i≥0)) then
   (idx x4 (IntKind.wrap .i64 (n+2))).bind fun v4=>
   bif (!(c==0)) then
   bif (!(c==0)) then
   (DN (c,(c2,())) i j k ((IntKind.wrap .i64 ((v4.tmod c)+c)).tmod c)).bind fun r5=>
   eV (IntKind.wrap .i64 (n+3)) x x2 x3 x4 t t2 r5.1 r5.2.1
   else none
   else none
  else
   eV (IntKind.wrap .i64 (n+3)) x x2 x3 x4 t t2 c c2
theorem vZ (n j k i x x2 x3 x4 t t2 c c2):fX n j k i x x2 x3 x4 t t2 c c2=pI fX eB tg n j k i x x2 x3 x4 t t2 c c2:=(l1 14 1 _).trans (by kernel_rfl)
def Cm (eV:af eB)(MM:af q6)(MN:af q7)(z6:af jy)(x:(List (List Int))×(List Int)×Int×(List Int)×Unit)(most:Int):Option jY:=
 let e0:Int:=(bif decide (40<(x.1.length:Int)) then 40 else (x.1.length:Int))
 bif (c6 x.1.length 0 e0) then
 (MM (cut x.1 0 e0) x.2.1 5 3 6).bind fun r1=>
 let e2:Int:=(bif decide (most<(r1.length:Int)) then most else (r1.length:Int))
 bif (c6 r1.length 0 e2) then
 (MN x.2.2.1).bind fun r3=>
 (z6 (cut r1 0 e2) r3).bind fun r4=>
 eV 0 x.1 x.2.1 x.2.2.1 x.2.2.2.1 0 (0:Nat) r4.1.1 r4.1.2.1
 else none
 else none
theorem KT (x most):qY x most=Cm eB q6 q7 jy x most:=(e1 14 _).trans (by kernel_rfl)
def oo (oq:af ft)(i:Int)(c:Int)(c2:qX)(t:Int)(t2:Nat)(out:Int)(ai:Nat)(kX:H0):Option ((Int×Nat×Unit)×H0):=
 bif (decide (i<(c2.length:Int))) then
  (idx c2 i).bind fun v0=>
  bif (aD 16 2 0 v0.2.2.1.length) then
  let e1:qX:=([(v0.1,(v0.2.1,((([]:b9)++v0.2.2.1),())))]:qX)
  (ah kX ai).bind fun v2=>
  bif (aD 48 3 v2.length 1) then
  oq (IntKind.wrap .i64 (i+1)) c c2 t t2 out ((dF kX ai).length+1:Nat) ((dF kX ai)++[some (v2++e1)])
  else none
  else none
 else
  (typed (hs ([]) [] [] [] [] [] [] [] [] []) yG (.rv (.agg [⟨.int .i64,out⟩,⟨.ref 0,ai⟩]))).bind fun v3=>
  some (v3,kX)
theorem uH (i c c2 t t2 out ai kX):ft i c c2 t t2 out ai kX=oo ft i c c2 t t2 out ai kX:=(l1 15 0 _).trans (by kernel_rfl)
def AF (oq:af ft)(c:jY)(kX:H0):Option ((Int×Nat×Unit)×H0):=
 oq 0 c.1 c.2.1 0 (0:Nat) c.1 (0:Nat) kX
theorem Jk (c kX):p6 c kX=AF ft c kX:=(e1 15 _).trans (by kernel_rfl)
def pJ (pK:af fY)(KU:af p7)(j:Int)(c:Int)(c2:qX):Option (Int):=
 bif (decide (j<(c2.length:Int))) then
  (KU (c,(c2,())) j).bind fun r0=>
  bif (r0 != 0) then
   some r0
  else
   pK (IntKind.wrap .i64 (j+1)) c c2
 else
  some 0
theorem wa (j c c2):fY j c c2=pJ fY p7 j c c2:=(l1 16 0 _).trans (by kernel_rfl)
def Cn (pK:af fY)(tX:af ed)(c:jY):Option (Int):=
 (tX c.1).bind fun r0=>
 bif (!r0) then
  some 8
 else
  bif (decide ((c.2.1.length:Int)>1024)) then
   some 3
  else
   pK 0 c.1 c.2.1
theorem KV (c):qZ c=Cn fY ed c:=(e1 16 _).trans (by kernel_rfl)
def qG (qH:af gQ)(iO:af ck)(i:Int)(a:Int)(a2:qX)(b:Int)(b2:qX):Option (Bool):=
 bif (decide (i<(a2.length:Int))) then
  (idx a2 i).bind fun v0=>
  (idx b2 i).bind fun v1=>
  bif (v0.1 != v1.1) then
   some false
  else
   (idx a2 i).bind fun v2=>
   (idx b2 i).bind fun v3=>
   bif (!(v2.2.1.toList==v3.2.1.toList)) then
    some false
   else
    (idx a2 i).bind fun v4=>
    (idx b2 i).bind fun v5=>
    (iO v4.2.2.1 v5.2.2.1).bind fun r6=>
    bif (!r6) then
     some false
    else
     qH (IntKind.wrap .i64 (i+1)) a a2 b b2
 else
  some true
theorem xf (i a a2 b b2):gQ i a a2 b b2=qG gQ ck i a a2 b b2:=(l1 19 0 _).trans (by kernel_rfl)
def DO (qH:af gQ)(a:jY)(b:jY):Option (Bool):=
 bif (a.1 != b.1) then
  some false
 else
  bif ((a.2.1.length:Int) != (b.2.1.length:Int)) then
   some false
  else
   qH 0 a.1 a.2.1 b.1 b.2.1
theorem MO (a b):tf a b=DO gQ a b:=(e1 19 _).trans (by kernel_rfl)
def fT (ke:af bt)(a:b9)(b:b9)(i:Int):Option (Bool):=
 bif (decide (i<(a.length:Int))) then
  (idx a i).bind fun v0=>
  (idx b i).bind fun v1=>
  bif (!(Bj yT (v0.1,(v0.2.1,())) (v1.1,(v1.2.1,())))) then
   some false
  else
   ke a b (IntKind.wrap .i64 (i+1))
 else
  some true
theorem jr (a b i):bt a b i=fT bt a b i:=(l1 30 0 _).trans (by kernel_rfl)
def mW (ke:af bt)(a:b9)(b:b9):Option (Bool):=
 bif ((a.length:Int) != (b.length:Int)) then
  some false
 else
  ke a b 0
theorem sZ (a b):ck a b=mW bt a b:=(e1 30 _).trans (by kernel_rfl)
def Co (tY:af gR)(bO:af bB)(f:List ((List Int)×ByteArray×Unit))(p:Int)(j:Int)(t:Int)(t2:Nat)(out:Int)(ai:Nat):Option (jY×Int):=
 bif (decide (j<(f.length:Int))) then
  bif (ir 8 j j) then
  let e0:H4:=(([]:H4)++[some (List.replicate j.toNat 0)])
  let e1:Nat:=(([]:H4).length+1:Nat)
  (idx f j).bind fun v2=>
  (bO v2.1).bind fun r3=>
  tY f p j e1 r3 0 t t2 out ai e0
  else none
 else
  (Py (typed h0 yH (.rv (.agg [⟨.int .i64,out⟩,⟨.ref 0,ai⟩]))) (some 0)).bind fun v4=>
  some v4
theorem KW (f p j t t2 out ai):jK f p j t t2 out ai=Co gR bB f p j t t2 out ai:=(l1 33 0 _).trans (by kernel_rfl)
def Cq (ot:af gS)(su:af cL)(cZ:af aR)(f:List ((List Int)×ByteArray×Unit))(p:Int)(j:Int)(v:Nat)(b6:List (List Int))(k:Int)(t:Int)(t2:Nat)(out:Int)(ai:Nat)(aC:H4):Option (jY×Int):=
 bif (decide (k<(b6.length:Int))) then
  ot f p j v b6 k 0 t t2 out ai aC
 else
  (idx f j).bind fun v0=>
  let e1:Int:=(IntKind.wrap .i64 ((v0.1.length:Int) - 1))
  (idx f j).bind fun v2=>
  (cZ v aC).bind fun r3=>
  let e4:qX:=([(e1,(v2.2.1,(r3,())))]:qX)
  (ah ([]:H0) ai).bind fun v5=>
  bif (aD 48 3 v5.length 1) then
  let e6:H0:=((dF ([]:H0) ai)++[some (v5++e4)])
  let e7:Nat:=((dF ([]:H0) ai).length+1:Nat)
  su f p (IntKind.wrap .i64 (j+1)) t t2 out e7 e6 aC
  else none
theorem KX (f p j v b6 k t t2 out ai aC):gR f p j v b6 k t t2 out ai aC=Cq gS cL aR f p j v b6 k t t2 out ai aC:=(l1 33 1 _).trans (by kernel_rfl)
def Ct (ot:af gS)(tY:af gR)(aY:af aT)(f:List ((List Int)×ByteArray×Unit))(p:Int)(j:Int)(v:Nat)(b6:List (List Int))(k:Int)(i:Int)(t:Int)(t2:Nat)(out:Int)(ai:Nat)(aC:H4):Option (jY×Int):=
 bif (decide (i<j)) then
  (idx f i).bind fun v0=>
  (idx b6 k).bind fun v1=>
  (aY v0.1 v1).bind fun r2=>
  bif (r2==0) then
   let e3:Int:=(IntKind.wrap .i64 ((k.tmod 2)*(IntKind.wrap .i64 (p - 2))))
   bif (!(p==0)) then
   (ah aC v).bind fun v4=>
   (idx v4 i).bind fun _=>
   (ah aC v).bind fun v5=>
   (v5[i.toNat]?).bind fun v6=>
   let e7:H4:=(je aC v (v5.set i.toNat ((IntKind.wrap .i64 (1+e3)).tmod p)))
   ot f p j v b6 k (IntKind.wrap .i64 (i+1)) t t2 out ai e7
   else none
  else
   ot f p j v b6 k (IntKind.wrap .i64 (i+1)) t t2 out ai aC
 else
  tY f p j v b6 (IntKind.wrap .i64 (k+1)) t t2 out ai aC
theorem KY (f p j v b6 k i t t2 out ai aC):gS f p j v b6 k i t t2 out ai aC=Ct gS gR aT f p j v b6 k i t t2 out ai aC:=(l1 33 2 _).trans (by kernel_rfl)
def ml (sw:af dw)(bO:af bB)(f:List ((List Int)×ByteArray×Unit))(p:Int)(j:Int)(t:Int)(t2:Nat)(out:Int)(ai:Nat)(kX:H0)(aC:H4):Option (jY×Int):=
 bif (decide (j<(f.length:Int))) then
  bif (ir 8 j j) then
  let e0:H4:=(aC++[some (List.replicate j.toNat 0)])
  (idx f j).bind fun v1=>
  (bO v1.1).bind fun r2=>
  sw f p j (aC.length+1:Nat) r2 0 t t2 out ai kX e0
  else none
 else
  (Py (typed (hs kX [] [] [] aC [] [] [] [] []) yH (.rv (.agg [⟨.int .i64,out⟩,⟨.ref 0,ai⟩]))) (some 0)).bind fun v3=>
  some v3
theorem qI (f p j t t2 out ai kX aC):cL f p j t t2 out ai kX aC=ml dw bB f p j t t2 out ai kX aC:=(l1 33 0 _).trans (by kernel_rfl)
def mn (mo:af eJ)(su:af cL)(cZ:af aR)(f:List ((List Int)×ByteArray×Unit))(p:Int)(j:Int)(v:Nat)(b6:List (List Int))(k:Int)(t:Int)(t2:Nat)(out:Int)(ai:Nat)(kX:H0)(aC:H4):Option (jY×Int):=
 bif (decide (k<(b6.length:Int))) then
  mo f p j v b6 k 0 t t2 out ai kX aC
 else
  (idx f j).bind fun v0=>
  let e1:Int:=(IntKind.wrap .i64 ((v0.1.length:Int) - 1))
  (idx f j).bind fun v2=>
  (cZ v aC).bind fun r3=>
  let e4:qX:=([(e1,(v2.2.1,(r3,())))]:qX)
  (ah kX ai).bind fun v5=>
  bif (aD 48 3 v5.length 1) then
  su f p (IntKind.wrap .i64 (j+1)) t t2 out ((dF kX ai).length+1:Nat) ((dF kX ai)++[some (v5++e4)]) aC
  else none
theorem qJ (f p j v b6 k t t2 out ai kX aC):dw f p j v b6 k t t2 out ai kX aC=mn eJ cL aR f p j v b6 k t t2 out ai kX aC:=(l1 33 1 _).trans (by kernel_rfl)
def mq (mo:af eJ)(sw:af dw)(aY:af aT)(f:List ((List Int)×ByteArray×Unit))(p:Int)(j:Int)(v:Nat)(b6:List (List Int))(k:Int)(i:Int)(t:Int)(t2:Nat)(out:Int)(ai:Nat)(kX:H0)(aC:H4):Option (jY×Int):=
 bif (decide (i<j)) then
  (idx f i).bind fun v0=>
  (idx b6 k).bind fun v1=>
  (aY v0.1 v1).bind fun r2=>
  bif (r2==0) then
   let e3:Int:=(IntKind.wrap .i64 ((k.tmod 2)*(IntKind.wrap .i64 (p - 2))))
   bif (!(p==0)) then
   (ah aC v).bind fun v4=>
   (idx v4 i).bind fun _=>
   (ah aC v).bind fun v5=>
   (v5[i.toNat]?).bind fun v6=>
   let e7:H4:=(je aC v (v5.set i.toNat ((IntKind.wrap .i64 (1+e3)).tmod p)))
   mo f p j v b6 k (IntKind.wrap .i64 (i+1)) t t2 out ai kX e7
   else none
  else
   mo f p j v b6 k (IntKind.wrap .i64 (i+1)) t t2 out ai kX aC
 else
  sw f p j v b6 (IntKind.wrap .i64 (k+1)) t t2 out ai kX aC
theorem qK (f p j v b6 k i t t2 out ai kX aC):eJ f p j v b6 k i t t2 out ai kX aC=mq eJ dw aT f p j v b6 k i t t2 out ai kX aC:=(l1 33 2 _).trans (by kernel_rfl)
def Aa (MP:af jK)(tX:af ed)(MQ:af jN)(f:List ((List Int)×ByteArray×Unit))(p:Int):Option (jY×Int):=
 (tX p).bind fun r0=>
 bif (!r0) then
  (Py (typed h0 yH (.rv (.agg [⟨.int .i64,(0:Int)⟩,⟨.ref 0,(0:Nat)⟩]))) (some 8)).bind fun v1=>
  some v1
 else
  (MQ f).bind fun r2=>
  bif (r2 != 0) then
   (Py (typed h0 yH (.rv (.agg [⟨.int .i64,(0:Int)⟩,⟨.ref 0,(0:Nat)⟩]))) (some r2)).bind fun v3=>
   some v3
  else
   MP f p 0 0 (0:Nat) p (0:Nat)
theorem FC (f p):jy f p=Aa jK ed jN f p:=(e1 33 _).trans (by kernel_rfl)
def Cu (n:Int):Option (Int):=
 let e0:List Int:=([2,(3:Int),(5:Int),(2:Int),(251:Int),(7:Int)]:List Int)
 let e1:Int:=(IntKind.wrap .i64 ((n.tmod 6)+6))
 (idx e0 (e1.tmod 6)).bind fun _=>
 (e0[(e1.tmod 6).toNat]?).bind fun v2=>
 some v2
theorem KZ (n):q7 n=Cu n:=(e1 34 _).trans (by kernel_rfl)
def qL (qM:af gT)(qN:af gU)(cZ:af aR)(i:Int)(j:Int)(k:Int)(m:Int)(inv:Int)(v:Nat)(a:List Int)(b:List Int)(n:Int)(c:Int)(c2:qX)(t:Int)(t2:Nat)(out:Int)(ai:Nat)(kX:H0)(aC:H4):Option jY:=
 (ah aC v).bind fun v0=>
 bif (decide (n<(v0.length:Int))) then
  (idx a n).bind fun v1=>
  (idx b n).bind fun v2=>
  let e3:Int:=(IntKind.wrap .i64 ((IntKind.wrap .i64 (k*v1))+(IntKind.wrap .i64 (m*v2))))
  bif (!(c==0)) then
  (ah aC v).bind fun v4=>
  (idx v4 n).bind fun _=>
  (ah aC v).bind fun v5=>
  (v5[n.toNat]?).bind fun v6=>
  qM i j k m inv v a b (IntKind.wrap .i64 (n+1)) c c2 t t2 out ai kX (je aC v (v5.set n.toNat (e3.tmod c)))
  else none
 else
  (cZ v aC).bind fun r7=>
  (ah kX ai).bind fun v8=>
  (idx v8 j).bind fun _=>
  (ah kX ai).bind fun v9=>
  (v9[j.toNat]?).bind fun v10=>
  let Uv:H0:=(je kX ai (v9.set j.toNat (v10.1,(v10.2.1,(r7,())))))
  qN i j m inv (IntKind.wrap .i64 (j+1)) c c2 t t2 out ai Uv aC
theorem xg (i j k m inv v a b n c c2 t t2 out ai kX aC):gT i j k m inv v a b n c c2 t t2 out ai kX aC=qL gT gU aR i j k m inv v a b n c c2 t t2 out ai kX aC:=(l1 35 0 _).trans (by kernel_rfl)
def qO (qN:af gU)(FD:af kp)(cZ:af aR)(i:Int)(j:Int)(m:Int)(inv:Int)(n:Int)(c:Int)(c2:qX)(t:Int)(t2:Nat)(out:Int)(ai:Nat)(kX:H0)(aC:H4):Option jY:=
 bif (decide (n<(c2.length:Int))) then
  (idx c2 n).bind fun v0=>
  (FD v0.2.2.1 (c2.length:Int) aC).bind fun r1=>
  (ah r1.2 r1.1).bind fun v2=>
  (idx v2 i).bind fun _=>
  (ah r1.2 r1.1).bind fun v3=>
  (v3[i.toNat]?).bind fun v4=>
  (ah r1.2 r1.1).bind fun v5=>
  (idx v5 j).bind fun _=>
  (ah r1.2 r1.1).bind fun v6=>
  (v6[j.toNat]?).bind fun v7=>
  let e8:Int:=(IntKind.wrap .i64 ((IntKind.wrap .i64 (c - 1))*v7))
  bif (!(c==0)) then
  bif (!(c==0)) then
  let e9:Int:=(IntKind.wrap .i64 (((IntKind.wrap .i64 ((e8.tmod c)*inv)).tmod c)*m))
  bif (!(c==0)) then
  (ah r1.2 r1.1).bind fun v10=>
  (idx v10 i).bind fun _=>
  (ah r1.2 r1.1).bind fun v11=>
  (v11[i.toNat]?).bind fun v12=>
  let W7:H4:=(je r1.2 r1.1 (v11.set i.toNat ((IntKind.wrap .i64 (v4+e9)).tmod c)))
  (ah W7 r1.1).bind fun v14=>
  (idx v14 j).bind fun _=>
  (ah W7 r1.1).bind fun v15=>
  (v15[j.toNat]?).bind fun v16=>
  bif (!(c==0)) then
  (ah W7 r1.1).bind fun v17=>
  (idx v17 j).bind fun _=>
  (ah W7 r1.1).bind fun v18=>
  (v18[j.toNat]?).bind fun v19=>
  let e20:H4:=(je W7 r1.1 (v18.set j.toNat ((IntKind.wrap .i64 (v16*inv)).tmod c)))
  (cZ r1.1 e20).bind fun r21=>
  (ah kX ai).bind fun v22=>
  (idx v22 n).bind fun _=>
  (ah kX ai).bind fun v23=>
  (v23[n.toNat]?).bind fun v24=>
  let e25:H0:=(je kX ai (v23.set n.toNat (v24.1,(v24.2.1,(r21,())))))
  qN i j m inv (IntKind.wrap .i64 (n+1)) c c2 t t2 out ai e25 e20
  else none
  else none
  else none
  else none
 else
  (typed (hs kX [] [] [] aC [] [] [] [] []) yH (.rv (.agg [⟨.int .i64,out⟩,⟨.ref 0,ai⟩]))).bind fun v26=>
  some v26
theorem xi (i j m inv n c c2 t t2 out ai kX aC):gU i j m inv n c c2 t t2 out ai kX aC=qO gU kp aR i j m inv n c c2 t t2 out ai kX aC:=(l1 35 1 _).trans (by kernel_rfl)
def DP (qM:af gT)(K0:af p6)(Jl:af nv)(Cv:af q8)(c:jY)(i:Int)(j:Int)(k:Int)(m:Int):Option jY:=
 (K0 (c.1,(c.2.1,())) ([]:H0)).bind fun r0=>
 (Jl c.1 k).bind fun r1=>
 bif (ir 8 (c.2.1.length:Int) (c.2.1.length:Int)) then
 let e2:H4:=(([]:H4)++[some (List.replicate (c.2.1.length:Int).toNat 0)])
 let e3:Nat:=(([]:H4).length+1:Nat)
 (idx c.2.1 j).bind fun v4=>
 (Cv v4.2.2.1 (c.2.1.length:Int)).bind fun r5=>
 (idx c.2.1 i).bind fun v6=>
 (Cv v6.2.2.1 (c.2.1.length:Int)).bind fun r7=>
 qM i j k m r1 e3 r5 r7 0 c.1 c.2.1 0 (0:Nat) r0.1.1 r0.1.2.1 r0.2 e2
 else none
theorem MR (c i j k m):tg c i j k m=DP gT p6 nv q8 c i j k m:=(e1 35 _).trans (by kernel_rfl)
def pL (pM:af eD)(p:Int)(k:Int):Option (Bool):=
 bif (decide (k<p)) then
  bif (decide (p≤251)) then
   bif (!(k==0)) then
   bif ((p.tmod k)==0) then
    some false
   else
    pM p (IntKind.wrap .i64 (k+1))
   else none
  else
   bif (decide (p≥2)) then
    some (decide (p≤251))
   else
    some false
 else
  bif (decide (p≥2)) then
   some (decide (p≤251))
  else
   some false
theorem wb (p k):eD p k=pL eD p k:=(l1 36 0 _).trans (by kernel_rfl)
def tZ (pM:af eD)(p:Int):Option (Bool):=
 pM p 2
theorem AG (p):ed p=tZ eD p:=(e1 36 _).trans (by kernel_rfl)
def ou (ov:af fu)(ow:af b7)(j:Int)(i:Int)(c:Int)(c2:qX)(x:Int)(x2:ByteArray)(x3:b9):Option (Int):=
 bif (decide (i<(x3.length:Int))) then
  (idx x3 i).bind fun v0=>
  bif (decide (v0.1≥j)) then
   some 7
  else
   ov j (IntKind.wrap .i64 (i+1)) c c2 x x2 x3
 else
  ow j 0 c c2 x x2 x3
theorem uI (j i c c2 x x2 x3):fu j i c c2 x x2 x3=ou fu b7 j i c c2 x x2 x3:=(l1 37 0 _).trans (by kernel_rfl)
def oz (ow:af b7)(MS:af rf)(K1:af p8)(dT:af aX)(j:Int)(i:Int)(c:Int)(c2:qX)(x:Int)(x2:ByteArray)(x3:b9):Option (Int):=
 bif (decide (i<(x3.length:Int))) then
  (idx x3 i).bind fun v0=>
  (idx c2 v0.1).bind fun v1=>
  bif (v1.1 != (IntKind.wrap .i64 (x - 1))) then
   some 10
  else
   ow j (IntKind.wrap .i64 (i+1)) c c2 x x2 x3
 else
  (MS (c,(c2,())) x3).bind fun r2=>
  (K1 r2).bind fun r3=>
  bif (decide ((r3.length:Int)>0)) then
   some 11
  else
   bif (decide (j>0)) then
    (idx c2 (IntKind.wrap .i64 (j - 1))).bind fun v4=>
    (dT x2 v4.2.1).bind fun r5=>
    bif (decide (r5<0)) then
     some 6
    else
     some 0
   else
    some 0
theorem uJ (j i c c2 x x2 x3):b7 j i c c2 x x2 x3=oz b7 rf p8 aX j i c c2 x x2 x3:=(l1 37 1 _).trans (by kernel_rfl)
def AH (ov:af fu)(kc:af c9)(K2:af p9)(c:jY)(j:Int):Option (Int):=
 (idx c.2.1 j).bind fun v0=>
 bif (decide (v0.1<0)) then
  some 1
 else
  bif (decide (v0.1>4)) then
   some 1
  else
   (kc v0.2.1).bind fun r1=>
   bif (!r1) then
    some 1
   else
    (K2 c.1 v0.2.2.1).bind fun r2=>
    bif (r2 != 0) then
     some r2
    else
     ov j 0 c.1 c.2.1 v0.1 v0.2.1 v0.2.2.1
theorem Jm (c j):p7 c j=AH fu c9 p9 c j:=(e1 37 _).trans (by kernel_rfl)
def pN (pO:af ga)(x:b9)(i:Int)(out:List Int):Option (List Int):=
 bif (decide (i<(x.length:Int))) then
  (idx x i).bind fun v0=>
  (idx x i).bind fun v1=>
  (idx out v0.1).bind fun _=>
  (out[v0.1.toNat]?).bind fun v2=>
  pO x (IntKind.wrap .i64 (i+1)) (out.set v0.1.toNat v1.2.1)
 else
  some out
theorem wc (x i out):ga x i out=pN ga x i out:=(l1 38 0 _).trans (by kernel_rfl)
def Cw (pO:af ga)(x:b9)(n:Int):Option (List Int):=
 bif (ir 8 n n) then
 pO x 0 (List.replicate n.toNat 0)
 else none
theorem K3 (x n):q8 x n=Cw ga x n:=(e1 38 _).trans (by kernel_rfl)
def oA (js:af fw)(v:List Int)(i:Int)(out:b9):Option b9:=
 bif (decide (i<(v.length:Int))) then
  (idx v i).bind fun v0=>
  bif (v0 != 0) then
   (idx v i).bind fun v1=>
   bif (aD 16 2 out.length 1) then
   let e2:b9:=(out++([(i,(v1,()))]:b9))
   js v (IntKind.wrap .i64 (i+1)) e2
   else none
  else
   js v (IntKind.wrap .i64 (i+1)) out
 else
  some out
theorem uK (v i out):fw v i out=oA fw v i out:=(l1 40 0 _).trans (by kernel_rfl)
def AI (js:af fw)(v:List Int):Option b9:=
 js v 0 ([]:b9)
theorem Jn (v):p8 v=AI fw v:=(e1 40 _).trans (by kernel_rfl)
def mX (mY:af eQ)(p:Int)(a:Int)(b:Int):Option (Int):=
 bif (decide (b<p)) then
  bif (!(p==0)) then
  bif (((IntKind.wrap .i64 (a*b)).tmod p)==1) then
   some b
  else
   mY p a (IntKind.wrap .i64 (b+1))
  else none
 else
  some 0
theorem s0 (p a b):eQ p a b=mX eQ p a b:=(l1 60 0 _).trans (by kernel_rfl)
def zh (mY:af eQ)(p:Int)(a:Int):Option (Int):=
 mY p a 1
theorem Ib (p a):nv p a=zh eQ p a:=(e1 60 _).trans (by kernel_rfl)
def oB (jt:af fx)(p:Int)(x:b9)(i:Int):Option (Int):=
 bif (decide (i<(x.length:Int))) then
  (idx x i).bind fun v0=>
  bif (decide (v0.1<0)) then
   some 1
  else
   (idx x i).bind fun v1=>
   bif (decide (v1.1≥1024)) then
    some 1
   else
    (idx x i).bind fun v2=>
    bif (decide (v2.2.1<1)) then
     some 1
    else
     (idx x i).bind fun v3=>
     bif (decide (v3.2.1≥p)) then
      some 1
     else
      bif (decide (i>0)) then
       (idx x i).bind fun v4=>
       (idx x (IntKind.wrap .i64 (i - 1))).bind fun v5=>
       bif (decide (v4.1≤v5.1)) then
        some 6
       else
        jt p x (IntKind.wrap .i64 (i+1))
      else
       jt p x (IntKind.wrap .i64 (i+1))
 else
  some 0
theorem uL (p x i):fx p x i=oB fx p x i:=(l1 62 0 _).trans (by kernel_rfl)
def AJ (jt:af fx)(p:Int)(x:b9):Option (Int):=
 jt p x 0
theorem Jo (p x):p9 p x=AJ fx p x:=(e1 62 _).trans (by kernel_rfl)
def pP (pQ:af gg)(x:b9)(i:Int)(out:List Int)(c:Int)(c2:qX):Option (List Int):=
 bif (decide (i<(x.length:Int))) then
  (idx x i).bind fun v0=>
  (idx c2 v0.1).bind fun v1=>
  pQ x i v1.2.2.1 0 out c c2
 else
  some out
theorem we (x i out c c2):eF x i out c c2=pP gg x i out c c2:=(l1 63 0 _).trans (by kernel_rfl)
def pR (pQ:af gg)(pS:af eF)(x:b9)(i:Int)(b:b9)(k:Int)(out:List Int)(c:Int)(c2:qX):Option (List Int):=
 bif (decide (k<(b.length:Int))) then
  (idx b k).bind fun v0=>
  (idx b k).bind fun v1=>
  (idx out v1.1).bind fun _=>
  (out[v1.1.toNat]?).bind fun v2=>
  (idx x i).bind fun v3=>
  (idx b k).bind fun v4=>
  let e5:Int:=(IntKind.wrap .i64 (v2+(IntKind.wrap .i64 (v3.2.1*v4.2.1))))
  bif (!(c==0)) then
  (idx out v0.1).bind fun _=>
  (out[v0.1.toNat]?).bind fun v6=>
  pQ x i b (IntKind.wrap .i64 (k+1)) (out.set v0.1.toNat (e5.tmod c)) c c2
  else none
 else
  pS x (IntKind.wrap .i64 (i+1)) out c c2
theorem wg (x i b k out c c2):gg x i b k out c c2=pR gg eF x i b k out c c2:=(l1 63 1 _).trans (by kernel_rfl)
def Cy (pS:af eF)(c:jY)(x:b9):Option (List Int):=
 bif (ir 8 (c.2.1.length:Int) (c.2.1.length:Int)) then
 let e0:List Int:=(List.replicate (c.2.1.length:Int).toNat 0)
 pS x 0 e0 c.1 c.2.1
 else none
theorem K4 (c x):rf c x=Cy eF c x:=(e1 63 _).trans (by kernel_rfl)
def kf (kg:af dc)(x:b9)(out:Nat)(i:Int)(aC:H4):Option ((Nat)×H4):=
 bif (decide (i<(x.length:Int))) then
  (idx x i).bind fun v0=>
  (idx x i).bind fun v1=>
  (ah aC out).bind fun v2=>
  (idx v2 v0.1).bind fun _=>
  (ah aC out).bind fun v3=>
  (v3[v0.1.toNat]?).bind fun v4=>
  kg x out (IntKind.wrap .i64 (i+1)) (je aC out (v3.set v0.1.toNat v1.2.1))
 else
  some (out,aC)
theorem qd (x out i aC):dc x out i aC=kf dc x out i aC:=(l1 102038 0 _).trans (by kernel_rfl)
def uM (kg:af dc)(x:b9)(n:Int)(aC:H4):Option ((Nat)×H4):=
 bif (ir 8 n n) then
 let e0:H4:=(aC++[some (List.replicate n.toNat 0)])
 kg x (aC.length+1:Nat) 0 e0
 else none
theorem ED (x n aC):kp x n aC=uM dc x n aC:=(e1 102038 _).trans (by kernel_rfl)
def gI (gJ:af bK)(v:Nat)(i:Int)(out:b9)(aC:H4):Option b9:=
 (ah aC v).bind fun v0=>
 bif (decide (i<(v0.length:Int))) then
  (ah aC v).bind fun v1=>
  (idx v1 i).bind fun _=>
  (ah aC v).bind fun v2=>
  (v2[i.toNat]?).bind fun v3=>
  bif (v3 != 0) then
   (ah aC v).bind fun v4=>
   (idx v4 i).bind fun _=>
   (ah aC v).bind fun v5=>
   (v5[i.toNat]?).bind fun v6=>
   bif (aD 16 2 out.length 1) then
   let e7:b9:=(out++([(i,(v6,()))]:b9))
   gJ v (IntKind.wrap .i64 (i+1)) e7 aC
   else none
  else
   gJ v (IntKind.wrap .i64 (i+1)) out aC
 else
  some out
theorem kh (v i out aC):bK v i out aC=gI bK v i out aC:=(l1 100040 0 _).trans (by kernel_rfl)
def oC (gJ:af bK)(v:Nat)(aC:H4):Option b9:=
 gJ v 0 ([]:b9) aC
theorem uN (v aC):aR v aC=oC bK v aC:=(e1 100040 _).trans (by kernel_rfl)
end
end Go.Proofs.YtofjebmoebhiiaaGreatDoor.Ev
namespace Go.Proofs.YtofjebmoebhiiaaGreatDoor.Ev
open Go.Abs
noncomputable section
def rN (kV:af cE)(a:b9)(b:b9)(i:Int):Option (Bool):=
 bif (decide (i<(a.length:Int))) then
  (idx a i).bind fun v0=>
  (idx b i).bind fun v1=>
  bif (!(Bj yT (v0.1,(v0.2.1,())) (v1.1,(v1.2.1,())))) then
   some false
  else
   kV a b (IntKind.wrap .i64 (i+1))
 else
  some true
theorem Cz (a b i):cE a b i=rN cE a b i:=(l1 23 0 _).trans (by kernel_rfl)
def wh (kV:af cE)(a:b9)(b:b9):Option (Bool):=
 bif ((a.length:Int) != (b.length:Int)) then
  some false
 else
  kV a b 0
theorem FE (a b):iA a b=wh cE a b:=(e1 23 _).trans (by kernel_rfl)
end
end Go.Proofs.YtofjebmoebhiiaaGreatDoor.Ev
namespace Go.Proofs.YtofjebmoebhiiaaGreatDoor.Ev
open Go.Abs
noncomputable section
end
end Go.Proofs.YtofjebmoebhiiaaGreatDoor.Ev
namespace Go.Proofs.YtofjebmoebhiiaaGreatDoor.Ev
open Go.Abs
noncomputable section
def DQ (w:Nat):af slices_SortFunc:=fun x hp=>ag3 x hp
theorem MT (w:Nat):DQ w=slices_SortFunc:=funext fun x=>funext fun hp=>(GI T B lf 50 ((x,()),hp)).symm
def CA (w:Nat):af rh:=fun s=>bif aD 16 2 0 s.length then some s else none
theorem Hy (w:Nat):CA w=rh:=funext fun s=>(GI T B lf 84 s).symm
def uO (w:Nat):af eS:=fun s c=>bif decide (0≤c)&&decide (c<256) then some (Ux c 0 s.data.toList) else none
theorem EE (w:Nat):uO w=eS:=funext fun s=>funext fun c=>(GI T B lf 165 (s,c)).symm
def uP:=wU cE fun w x=>rN x
theorem EF:∀w,uP w=cE:=mkLe fun _=>(x3 Cz)
def wk:=ia iA fun w=>wh (uP w)
theorem FF:∀w,wk w=iA:=bj fun w=>by rw[EF w];exact(x2 FE)
def s6:=wU bt fun w x=>fT x
theorem Dc:∀w,s6 w=bt:=mkLe fun _=>(x3 jr)
def uQ:=ia ck fun w=>mW (s6 w)
theorem EG:∀w,uQ w=ck:=bj fun w=>by rw[Dc w];exact(x2 sZ)
def Hz:=wU iU fun w x=>DJ x
theorem PN:∀w,Hz w=iU:=mkLe fun _=>(x3 MF)
def Jp:=ia vk fun w=>Jd (Hz w)
theorem Rp:∀w,Jp w=vk:=bj fun w=>by rw[PN w];exact(x1 Rm)
def AK:=wU eD fun w x=>pL x
theorem Jq:∀w,AK w=eD:=mkLe fun _=>(x2 wb)
def ua:=ia ed fun w=>tZ (AK w)
theorem AL:∀w,ua w=ed:=bj fun w=>by rw[Jq w];exact(x1 AG)
def DR:=wU eK fun w x=>mi x
theorem MU:∀w,DR w=eK:=mkLe fun _=>(x3 qE)
def rC:=ia aT fun w=>xY (DR w)
theorem DT:∀w,rC w=aT:=bj fun w=>by rw[MU w];exact(x2 DM)
def AM:=wU de fun w x=>kD x
theorem Jr:∀w,AM w=de:=mkLe fun _=>(x2 nO)
def oD:=ia cG fun w=>tK (AM w)
theorem sx:∀w,oD w=cG:=bj fun w=>by rw[Jr w];exact(x1 Ar)
def LI:=wU jA fun w x=>ti x
theorem Tp:∀w,LI w=jA:=mkLe fun _=>(x2 xO)
def wm:=ia lO fun w=>GO (LI w)
theorem yA:∀w,wm w=lO:=bj fun w=>by rw[Tp w];exact(x1 LD)
def HA:=wU gu fun w x=>qb x
theorem PO:∀w,HA w=gu:=mkLe fun _=>(x5 tw)
def CC:=ia lj fun w=>BJ (HA w) (wm w)
theorem HB:∀w,CC w=lj:=bj fun w=>by rw[PO w];rw[yA w];exact(x2 Ht)
def HC:=ia sG fun w=>zJ
theorem PQ:∀w,HC w=sG:=bj fun _=>(x2 Fa)
def HD:=ia sH fun w=>zK
theorem PR:∀w,HD w=sH:=bj fun _=>(x3 Fb)
def VR:=wU um fun w x=>DD x
theorem abd:∀w,VR w=um:=mkLe fun _=>(x5 GQ)
def Js:=ia xJ fun w=>Tl (VR w)
theorem Kn:∀w,Js w=xJ:=bj fun w=>by rw[abd w];exact(x1 VQ)
def xZ:=ia iB fun w=>xS
theorem DV:∀w,xZ w=iB:=bj fun _=>(x1 DF)
def Ab:=ia jC fun w=>zV (xZ w) (Js w)
theorem FG:∀w,Ab w=jC:=bj fun w=>by rw[DV w,Kn w];exact(x1 Fp)
def DW:=wU (dx,eL,dy,dA) fun w x=>(me x.2.1 x.2.2.1,mf x.2.1 x.1,rW x.2.2.1 x.2.2.2,rX x.2.2.2)
theorem MV:∀w,DW w=(dx,eL,dy,dA):=mkLe fun w=>by exact Prod.ext (x6 qx) (Prod.ext (x8 qy) (Prod.ext (x3 y4) ((x3 y5))))
def FH:=ia mE fun w=>xT (DW w).1
theorem Oi:∀w,FH w=mE:=bj fun w=>by rw[MV w];exact(x1 DG)
def wo:=ia j5 fun w=>N3
theorem LJ:∀w,wo w=j5:=bj fun _=>(x1 UA)
def AN:=wU cz fun w x=>kN x (rC w)
theorem Jt:∀w,AN w=cz:=mkLe fun w=>by rw[DT w];exact(x4 og)
def ub:=ia ef fun w=>oh (AN w)
theorem AO:∀w,ub w=ef:=bj fun w=>by rw[Jt w];exact(x3 sr)
def xj:=wU bH fun w x=>dC x
theorem G2:∀w,xj w=bH:=mkLe fun _=>(x4 fa)
def zi:=ia gX fun w=>qF (xj w)
theorem Ic:∀w,zi w=gX:=bj fun w=>by rw[G2 w];exact(x2 w9)
def QN:=wU nq fun w x=>yr x
theorem W9:∀w,QN w=nq:=mkLe fun _=>(x3 BR)
def MW:=ia yY fun w=>Mv (QN w)
theorem QO:∀w,MW w=yY:=bj fun w=>by rw[W9 w];exact(x2 QJ)
def Oj:=wU ln fun w x=>BS x
theorem UE:∀w,Oj w=ln:=mkLe fun _=>(x2 Hv)
def QP:=ia E7 fun w=>I6 (Oj w)
theorem Xa:∀w,QP w=E7:=bj fun w=>by rw[UE w];exact(x2 N6)
def QQ:=wU qs fun w x=>jF x
theorem Xb:∀w,QQ w=qs:=mkLe fun _=>(x3 j9)
def Tq:=ia E8 fun w=>Mw (QQ w)
theorem Zn:∀w,Tq w=E8:=bj fun w=>by rw[Xb w];exact(x1 QK)
def QR:=wU nr fun w x=>yt x
theorem Xc:∀w,QR w=nr:=mkLe fun _=>(x1 BU)
def CD:=ia mF fun w=>My (QR w)
theorem DY:∀w,CD w=mF:=bj fun w=>by rw[Xc w];exact(x1 QL)
def PS:=ia GJ fun w=>PH (wm w)
theorem Ts:∀w,PS w=GJ:=bj fun w=>by rw[yA w];exact(x1 Tj)
def qe:=ia dW fun w=>vy
theorem uc:∀w,qe w=dW:=bj fun _=>(x2 BM)
def CE:=wU fi fun w x=>iG x (CC w)
theorem K5:∀w,CE w=fi:=mkLe fun w=>by rw[HB w];exact(x4 kr)
def DZ:=ia oM fun w=>vv (CE w)
theorem MX:∀w,DZ w=oM:=bj fun w=>by rw[K5 w];exact(x2 BK)
def AP:=wU (dh,di) fun w x=>(kG x.1 x.2,kH x.2)
theorem Ju:∀w,AP w=(dh,di):=mkLe fun w=>by exact Prod.ext (x2 nW) ((x2 nX))
def CF:=ia fD fun w=>tN (AP w).1
theorem K6:∀w,CF w=fD:=bj fun w=>by rw[Ju w];exact(x1 Av)
def AQ:=wU cB fun w x=>kz x
theorem Jv:∀w,AQ w=cB:=mkLe fun _=>(x2 nM)
def CG:=ia jQ fun w=>tG (AQ w)
theorem K7:∀w,CG w=jQ:=bj fun w=>by rw[Jv w];exact(x1 An)
def CH:=wU dL fun w x=>lB x
theorem K8:∀w,CH w=dL:=mkLe fun _=>(x3 pd)
def qf:=ia c8 fun w=>vH (CH w)
theorem ud:∀w,qf w=c8:=bj fun w=>by rw[K8 w];exact(x2 B5)
def CI:=wU dM fun w x=>lC x
theorem K9:∀w,CI w=dM:=mkLe fun _=>(x1 pe)
def iR:=ia bb fun w=>vI (CI w)
theorem ki:∀w,iR w=bb:=bj fun w=>by rw[K9 w];exact(x1 B6)
def AR:=ia iM fun w=>se (uO w)
theorem Jw:∀w,AR w=iM:=bj fun w=>by rw[EE w];exact(x2 y7)
def Ol:=wU lq fun w x=>vA x
theorem UF:∀w,Ol w=lq:=mkLe fun _=>(x5 zY)
def Jx:=ia uq fun w=>I9 (Ol w)
theorem On:∀w,Jx w=uq:=bj fun w=>by rw[UF w];exact(x2 N8)
def AT:=wU eH fun w x=>wX x
theorem Jy:∀w,AT w=eH:=mkLe fun _=>(x4 GP)
def CJ:=ia mH fun w=>BN (AT w) (qe w)
theorem La:∀w,CJ w=mH:=bj fun w=>by rw[Jy w];rw[uc w];exact(x3 KF)
def HE:=ia sJ fun w=>zN
theorem PT:∀w,HE w=sJ:=bj fun _=>(x2 Fh)
def sy:=ia eN fun w=>si
theorem zj:∀w,sy w=eN:=bj fun _=>(x1 zc)
def uR:=ia gM fun w=>mN
theorem EH:∀w,uR w=gM:=bj fun _=>(x2 sU)
def LK:=wU jE fun w x=>tk x
theorem Tt:∀w,LK w=jE:=mkLe fun _=>(x6 xW)
def Oo:=ia xL fun w=>GU (LK w)
theorem UG:∀w,Oo w=xL:=bj fun w=>by rw[Tt w];exact(x2 LG)
def CK:=wU dN fun w x=>cU x
theorem Lb:∀w,CK w=dN:=mkLe fun _=>(x3 dr)
def D0:=ia oN fun w=>vx (CK w)
theorem MY:∀w,D0 w=oN:=bj fun w=>by rw[Lb w];exact(x2 BL)
def s7:=wU bw fun w x=>fQ x (iR w)
theorem Dd:∀w,s7 w=bw:=mkLe fun w=>by rw[ki w];exact(x5 jm)
def mZ:=ia aU fun w=>mT (s7 w)
theorem s8:∀w,mZ w=aU:=bj fun w=>by rw[Dd w];exact(x2 sW)
def AU:=wU dm fun w x=>o7 x
theorem Jz:∀w,AU w=dm:=mkLe fun _=>(x2 vB)
def CL:=ia gY fun w=>tD (AU w)
theorem Lc:∀w,CL w=gY:=bj fun w=>by rw[Jz w];exact(x1 Al)
def D1:=wU eO fun w x=>i6 x
theorem MZ:∀w,D1 w=eO:=mkLe fun _=>(x5 lD)
def FI:=ia iD fun w=>xX (D1 w)
theorem Oq:∀w,FI w=iD:=bj fun w=>by rw[MZ w];exact(x2 DK)
def D2:=ia oO fun w=>DB
theorem M0:∀w,D2 w=oO:=bj fun _=>(x1 Mp)
def zk:=wU dO fun w x=>vt x
theorem Ie:∀w,zk w=dO:=mkLe fun _=>(x3 Fe)
def AW:=ia lu fun w=>Aj (zk w)
theorem JA:∀w,AW w=lu:=bj fun w=>by rw[Ie w];exact(x1 I2)
def CM:=ia mJ fun w=>BD
theorem Ld:∀w,CM w=mJ:=bj fun _=>(x1 KD)
def xk:=wU (dp,dq) fun w x=>(ur x.2,uv x.2 x.1)
theorem G3:∀w,xk w=(dp,dq):=mkLe fun w=>by exact Prod.ext (x4 Er) ((x7 Es))
def zl:=ia j8 fun w=>yZ (xk w).1
theorem Ig:∀w,zl w=j8:=bj fun w=>by rw[G3 w];exact(x1 HS)
def uS:=wU bK fun w x=>gI x
theorem EI:∀w,uS w=bK:=mkLe fun _=>(x4 kh)
def oE:=ia aR fun w=>oC (uS w)
theorem FJ:∀w,oE w=aR:=bj fun w=>by rw[EI w];exact(x2 uN)
def uT:=wU bL fun w x=>gG x (HC w)
theorem EJ:∀w,uT w=bL:=mkLe fun w=>by rw[PQ w];exact(x4 ka)
def wq:=ia iE fun w=>nE (uT w)
theorem FK:∀w,wq w=iE:=bj fun w=>by rw[EJ w];exact(x2 uw)
def uU:=wU bM fun w x=>gH x (HD w)
theorem EK:∀w,uU w=bM:=mkLe fun w=>by rw[PR w];exact(x8 kb)
def wu:=ia iF fun w=>nF (uU w)
theorem FL:∀w,wu w=iF:=bj fun w=>by rw[EK w];exact(x2 ux)
def zm:=wU cO fun w x=>fR x (zi w)
theorem Ih:∀w,zm w=cO:=mkLe fun w=>by rw[Ic w];exact(x3 iP)
def mr:=ia bB fun w=>sj (zm w)
theorem zn:∀w,mr w=bB:=bj fun w=>by rw[Ih w];exact(x1 ze)
def tl:=ia fJ fun w=>zQ (MW w)
theorem yc:∀w,tl w=fJ:=bj fun w=>by rw[QO w];exact(x2 Fl)
def G4:=ia sI fun w=>Ms (PS w) (qe w)
theorem JB:∀w,G4 w=sI:=bj fun w=>by rw[Ts w,uc w];exact(x2 QG)
def zo:=wU cP fun w x=>jh x (iR w)
theorem Ii:∀w,zo w=cP:=mkLe fun w=>by rw[ki w];exact(x4 mO)
def eI:=ia ao fun w=>sf (zo w)
theorem fG:∀w,eI w=ao:=bj fun w=>by rw[Ii w];exact(x1 za)
def CN:=wU dI fun w x=>lz x
theorem Lf:∀w,CN w=dI:=mkLe fun _=>(x3 pc)
def eP:=ia al fun w=>vF (CN w) (iR w)
theorem hU:∀w,eP w=al:=bj fun w=>by rw[Lf w];rw[ki w];exact(x2 B3)
def D3:=ia oL fun w=>vC (AR w)
theorem M3:∀w,D3 w=oL:=bj fun w=>by rw[Jw w];exact(x2 B1)
def Bb:=ia iW fun w=>GS (CD w)
theorem EL:∀w,Bb w=iW:=bj fun w=>by rw[DY w];exact(x2 LF)
def zp:=ia j6 fun w=>y3 (CJ w)
theorem Ij:∀w,zp w=j6:=bj fun w=>by rw[La w];exact(x2 HV)
def JC:=wU iC fun w x=>rA x
theorem Rq:∀w,JC w=iC:=mkLe fun _=>(x4 vw)
def LM:=ia uo fun w=>Et (JC w) (HE w) (D0 w)
theorem Tu:∀w,LM w=uo:=bj fun w=>by rw[Rq w];rw[PT w,MY w];exact(x4 I4)
def qP:=wU (cR,cS) fun w x=>(ji x.1 (eP w),jl x.2 (eP w))
theorem Ik:∀w,qP w=(cR,cS):=mkLe fun w=>by rw[hU w];exact Prod.ext (x2 mP) ((x2 mQ))
def ja:=ia bC fun w=>sg (qP w).1 (qP w).2
theorem lF:∀w,ja w=bC:=bj fun w=>by rw[Ik w];exact(x1 zb)
def D4:=ia iX fun w=>vG (sy w)
theorem M4:∀w,D4 w=iX:=bj fun w=>by rw[zj w];exact(x1 B4)
def AX:=wU dj fun w x=>kA x
theorem JD:∀w,AX w=dj:=mkLe fun _=>(x3 nN)
def oF:=ia db fun w=>tH (AX w) (sy w)
theorem sA:∀w,oF w=db:=bj fun w=>by rw[JD w];rw[zj w];exact(x1 Ao)
def uV:=ia gL fun w=>mM (uR w)
theorem EM:∀w,uV w=gL:=bj fun w=>by rw[EH w];exact(x2 sT)
def QS:=wU (eM,jD,gv,lr) fun w x=>(yv x.2.1 (Jx w),yx x.2.2.1 x.2.1,yy x.2.2.1 x.2.2.2 x.1,yz x.2.2.2 x.1)
theorem Xd:∀w,QS w=(eM,jD,gv,lr):=mkLe fun w=>by rw[On w];exact Prod.ext (x6 BW) (Prod.ext (x8 BY) (Prod.ext (x10 BZ) ((x11 B0))))
def Tv:=ia E9 fun w=>Mz (QS w).1 (Oo w) (CD w)
theorem Zo:∀w,Tv w=E9:=bj fun w=>by rw[Xd w];rw[UG w,DY w];exact(x2 QM)
def xl:=ia gq fun w=>pg (eI w) (eP w)
theorem G5:∀w,xl w=gq:=bj fun w=>by rw[fG w,hU w];exact(x1 vL)
def FM:=ia mI fun w=>xV (CL w)
theorem Ot:∀w,FM w=mI:=bj fun w=>by rw[Lc w];exact(x1 DI)
def wx:=ia gw fun w=>vM (oF w) (ja w) (eI w) (FI w) (eP w) (qf w) (mZ w)
theorem CO:∀w,wx w=gw:=bj fun w=>by rw[sA w,lF w,fG w,Oq w,hU w,ud w,s8 w];exact(x2 B7)
def s9:=ia eg fun w=>lQ (wq w)
theorem De:∀w,s9 w=eg:=bj fun w=>by rw[FK w];exact(x2 rK)
def ta:=ia eo fun w=>lR (wu w)
theorem Df:∀w,ta w=eo:=bj fun w=>by rw[FL w];exact(x2 rL)
def FN:=ia mC fun w=>xQ (Ab w) (Js w) (tl w) (FH w)
theorem Ou:∀w,FN w=mC:=bj fun w=>by rw[FG w,Kn w,yc w,Oi w];exact(x1 DC)
def pT:=ia df fun w=>o9 (eI w) (eP w)
theorem wy:∀w,pT w=df:=bj fun w=>by rw[fG w,hU w];exact(x1 vE)
def LN:=ia uk fun w=>EC (D3 w)
theorem Tw:∀w,LN w=uk:=bj fun w=>by rw[M3 w];exact(x2 Jb)
def HF:=ia oY fun w=>zU (Bb w)
theorem PU:∀w,HF w=oY:=bj fun w=>by rw[EL w];exact(x1 Fo)
def M5:=ia Bz fun w=>Ti (PS w) (qe w) (zp w)
theorem QT:∀w,M5 w=Bz:=bj fun w=>by rw[Ts w,uc w,Ij w];exact(x2 Zl)
def wz:=ia iV fun w=>GN (DZ w) (G4 w) (LM w)
theorem EN:∀w,wz w=iV:=bj fun w=>by rw[MX w,JB w,Tu w];exact(x4 LC)
def D5:=ia kZ fun w=>vN (oD w) (D4 w)
theorem M6:∀w,D5 w=kZ:=bj fun w=>by rw[sx w,M4 w];exact(x1 B8)
def lG:=ia bF fun w=>qz (eI w) (qf w)
theorem pU:∀w,lG w=bF:=bj fun w=>by rw[fG w,ud w];exact(x2 wY)
def AY:=wU (bq,dg,cA) fun w x=>(ku x.2.1 x.2.2,kv x.2.1 x.1,ky x.2.2 (eP w))
theorem JE:∀w,AY w=(bq,dg,cA):=mkLe fun w=>by rw[hU w];exact Prod.ext (x6 nH) (Prod.ext (x7 nI) ((x4 nJ)))
def CP:=ia fz fun w=>tF (AY w).1 (oF w) (ja w) (eI w)
theorem Lg:∀w,CP w=fz:=bj fun w=>by rw[JE w];rw[sA w,lF w,fG w];exact(x2 Am)
def FO:=wU (da,fA) fun w x=>(nC x.2 (Bb w),nD x.2 x.1)
theorem Ov:∀w,FO w=(da,fA):=mkLe fun w=>by rw[EL w];exact Prod.ext (x10 rY) ((x16 rZ))
def HG:=ia o5 fun w=>zX (FO w).1
theorem PW:∀w,HG w=o5:=bj fun w=>by rw[Ov w];exact(x2 Fq)
def AZ:=ia iJ fun w=>sc (uV w)
theorem JF:∀w,AZ w=iJ:=bj fun w=>by rw[EM w];exact(x2 y6)
def QU:=ia xK fun w=>I7 (MW w) (Jx w) (CD w) (Tv w)
theorem Xe:∀w,QU w=xK:=bj fun w=>by rw[QO w,On w,DY w,Zo w];exact(x2 N7)
def FP:=ia mG fun w=>xU (FM w)
theorem Ow:∀w,FP w=mG:=bj fun w=>by rw[Ot w];exact(x1 DH)
def CQ:=ia jR fun w=>tI (pT w) (wx w)
theorem Lh:∀w,CQ w=jR:=bj fun w=>by rw[wy w,CO w];exact(x2 Ap)
def wA:=wU (cW,br,cX,cY) fun w x=>(sN x.1 x.2.1 (D2 w) (AW w),sO x.2.2.1 x.2.1 x.2.2.2 (CA w) (wo w),sP x.2.2.1,sQ x.2.2.2 x.2.1 (M5 w) (G4 w) (wz w) (wo w))
theorem FQ:∀w,wA w=(cW,br,cX,cY):=mkLe fun w=>by rw[M0 w,JA w,Hy w,LJ w,QT w,JB w,EN w];exact Prod.ext (x11 C8) (Prod.ext (x11 C9) (Prod.ext (x7 Da) ((x14 Db))))
def xm:=ia iZ fun w=>wW (wA w).1
theorem G6:∀w,xm w=iZ:=bj fun w=>by rw[FQ w];exact(x2 GM)
def uW:=wU (cH,bm,cI,cJ) fun w x=>(rG x.1 x.2.1 (CM w) (zl w),rH x.2.2.1 x.2.1 x.2.2.2 (CA w) (wo w),rI x.2.2.1,rJ x.2.2.2 x.2.1 (M5 w) (G4 w) (wz w) (wo w))
theorem EO:∀w,uW w=(cH,bm,cI,cJ):=mkLe fun w=>by rw[Ld w,Ig w,Hy w,LJ w,QT w,JB w,EN w];exact Prod.ext (x11 BF) (Prod.ext (x11 BG) (Prod.ext (x7 BH) ((x14 BI))))
def oG:=ia dP fun w=>vu (uW w).1
theorem uX:∀w,oG w=dP:=bj fun w=>by rw[EO w];exact(x2 Fg)
def HH:=ia oV fun w=>zO (HF w)
theorem PX:∀w,HH w=oV:=bj fun w=>by rw[PU w];exact(x1 Fj)
def zq:=ia aX fun w=>qD (oD w) (lG w) (CP w)
theorem Il:∀w,zq w=aX:=bj fun w=>by rw[sx w,pU w,Lg w];exact(x2 w7)
def JH:=wU (mD,fe) fun w x=>(xM x.2 (wz w),lv x.2 (wz w))
theorem Rr:∀w,JH w=(mD,fe):=mkLe fun w=>by rw[EN w];exact Prod.ext (x6 DA) ((x6 ny))
def LO:=ia uj fun w=>Ep (JH w).1
theorem Tx:∀w,LO w=uj:=bj fun w=>by rw[Rr w];exact(x2 I1)
def HI:=ia oW fun w=>zP (Ab w) (HG w) (tl w)
theorem PY:∀w,HI w=oW:=bj fun w=>by rw[FG w,PW w,yc w];exact(x2 Fk)
def QV:=wU (jB,np) fun w x=>(yo x.2 (Bb w),yp x.2 x.1)
theorem Xf:∀w,QV w=(jB,np):=mkLe fun w=>by rw[EL w];exact Prod.ext (x6 BP) ((x10 BQ))
def Tz:=ia E6 fun w=>Mu (QV w).1 (AZ w)
theorem Zp:∀w,Tz w=E6:=bj fun w=>by rw[Xf w];rw[JF w];exact(x1 QH)
def FR:=wU ee fun w x=>tA x (Tq w) (QP w) (Js w) (QU w) (CD w)
theorem Ox:∀w,FR w=ee:=mkLe fun w=>by rw[Zn w,Xa w,Kn w,Xe w,DY w];exact(x4 Ak)
def HJ:=ia oX fun w=>zS (FR w)
theorem PZ:∀w,HJ w=oX:=bj fun w=>by rw[Ox w];exact(x2 Fm)
def wB:=wU (bh,b8,aF) fun w x=>(ig x.2.1 x.2.2 (iR w),lU x.2.1 x.1 (qf w) (mZ w),ik x.2.2 (eP w) (CQ w) (wx w))
theorem FT:∀w,wB w=(bh,b8,aF):=mkLe fun w=>by rw[ki w,ud w,s8 w,hU w,Lh w,CO w];exact Prod.ext (x8 kT) (Prod.ext (x9 rM) ((x6 kU)))
def pV:=ia dk fun w=>pf (wB w).1 (oF w) (ja w) (eI w) (iR w)
theorem wC:∀w,pV w=dk:=bj fun w=>by rw[FT w];rw[sA w,lF w,fG w,ki w];exact(x2 vK)
def yB:=ia gr fun w=>yn (LN w) (Tz w) (Js w) (xZ w) (tl w) (HJ w)
theorem CS:∀w,yB w=gr:=bj fun w=>by rw[Tw w,Zp w,Kn w,DV w,yc w,PZ w];exact(x1 BO)
def Oy:=ia BA fun w=>GV (yB w) (FP w)
theorem UH:∀w,Oy w=BA:=bj fun w=>by rw[CS w,Ow w];exact(x1 LH)
def xn:=wU cn fun w x=>mR x (pV w)
theorem G7:∀w,xn w=cn:=mkLe fun w=>by rw[wC w];exact(x2 sV)
def qQ:=ia dK fun w=>qA (xn w) (xl w)
theorem xo:∀w,qQ w=dK:=bj fun w=>by rw[G7 w];rw[G5 w];exact(x2 w6)
def LP:=ia ui fun w=>EB (Oy w)
theorem TA:∀w,LP w=ui:=bj fun w=>by rw[UH w];exact(x1 Ja)
def HL:=ia oZ fun w=>z7 (oD w) (CG w) (lG w) (qQ w)
theorem P0:∀w,HL w=oZ:=bj fun w=>by rw[sx w,K7 w,pU w,xo w];exact(x1 Fx)
def zr:=ia j7 fun w=>zd (lG w) (pT w) (qQ w) (pV w)
theorem Im:∀w,zr w=j7:=bj fun w=>by rw[pU w,wy w,xo w,wC w];exact(x2 HY)
def JI:=wU dG fun w x=>rl x (yB w) (LP w) (CC w) (s9 w) (ta w) (LO w) (HI w)
theorem Ru:∀w,JI w=dG:=mkLe fun w=>by rw[CS w,TA w,HB w,De w,Df w,Tx w,PY w];exact(x9 vn)
def yD:=ia jz fun w=>Eo (JI w) (wm w)
theorem CT:∀w,yD w=jz:=bj fun w=>by rw[Ru w];rw[yA w];exact(x1 I0)
def CU:=ia c9 fun w=>tJ (D5 w) (HL w)
theorem Li:∀w,CU w=c9:=bj fun w=>by rw[M6 w,P0 w];exact(x1 Aq)
def xp:=ia gi fun w=>w8 (ja w) (zr w)
theorem G8:∀w,xp w=gi:=bj fun w=>by rw[lF w,Im w];exact(x2 GY)
def D6:=ia kY fun w=>vX (CF w) (CU w) (ub w)
theorem M7:∀w,D6 w=kY:=bj fun w=>by rw[K6 w,Li w,AO w];exact(x2 Ck)
def HM:=ia sK fun w=>Hs (yD w) (xm w)
theorem P1:∀w,HM w=sK:=bj fun w=>by rw[CT w,G6 w];exact(x2 PF)
def FU:=ia qt fun w=>Ff (yD w) (oG w)
theorem Oz:∀w,FU w=qt:=bj fun w=>by rw[CT w,uX w];exact(x2 N1)
def LQ:=wU (jx,ib,sF,eY,iz) fun w x=>(th x.1 x.2.1 (yB w) (HH w) (FN w),Hq x.2.2.1,Hr x.2.2.2.1 x.2.1,rq x.2.2.2.1 x.2.2.2.2,ry x.2.2.2.1)
theorem TB:∀w,LQ w=(jx,ib,sF,eY,iz):=mkLe fun w=>by rw[CS w,PX w,Ou w];exact Prod.ext (x10 xN) (Prod.ext (x9 PB) (Prod.ext (x12 PC) (Prod.ext (x13 vq) ((x10 vr)))))
def G9:=ia lN fun w=>GK (LQ w).1 (yD w)
theorem LR:∀w,G9 w=lN:=bj fun w=>by rw[TB w];rw[CT w];exact(x1 LA)
def FV:=ia qp fun w=>Fc (HM w)
theorem OA:∀w,FV w=qp:=bj fun w=>by rw[P1 w];exact(x1 NZ)
def LS:=ia yX fun w=>LB (FU w)
theorem TC:∀w,LS w=yX:=bj fun w=>by rw[Oz w];exact(x1 Th)
def A0:=wU eC fun w x=>wV x (DQ w)
theorem JJ:∀w,A0 w=eC:=mkLe fun w=>by rw[MT w];exact(x10 GL)
def CW:=ia mB fun w=>BC (A0 w) (G9 w) (oG w)
theorem Lj:∀w,CW w=mB:=bj fun w=>by rw[JJ w];rw[LR w,uX w];exact(x1 KC)
def A3:=wU (cw,dd) fun w x=>(kK x.2 (D6 w) (mr w),kL x.2 x.1 (ub w) (zq w))
theorem JK:∀w,A3 w=(cw,dd):=mkLe fun w=>by rw[M7 w,zn w,AO w,Il w];exact Prod.ext (x2 oa) ((x4 oc))
def CX:=ia jN fun w=>tW (A3 w).1
theorem Lk:∀w,CX w=jN:=bj fun w=>by rw[JK w];exact(x1 AB)
def FX:=wU (jK,gR,gS,cL,dw,eJ) fun w x=>(Co x.2.1 (mr w),Cq x.2.2.1 x.2.2.2.1 (oE w),Ct x.2.2.1 x.2.1 (rC w),ml x.2.2.2.2.1 (mr w),mn x.2.2.2.2.2 x.2.2.2.1 (oE w),mq x.2.2.2.2.2 x.2.2.2.2.1 (rC w))
theorem OB:∀w,FX w=(jK,gR,gS,cL,dw,eJ):=mkLe fun w=>by rw[zn w,FJ w,DT w];exact Prod.ext (x7 KW) (Prod.ext (x11 KX) (Prod.ext (x12 KY) (Prod.ext (x9 qI) (Prod.ext (x12 qJ) ((x13 qK))))))
def HN:=ia jy fun w=>Aa (FX w).1 (ua w) (CX w)
theorem P2:∀w,HN w=jy:=bj fun w=>by rw[OB w];rw[AL w,Lk w];exact(x2 FC)
def zt:=ia j0 fun w=>y9 (HN w)
theorem Io:∀w,zt w=j0:=bj fun w=>by rw[P2 w];exact HW.symm
def M8:=ia jJ fun w=>B2 (zt w) (FV w) (LS w) (CW w) (G9 w) (wk w) (Jp w) (uQ w)
theorem Ll:∀w,M8 w=jJ:=bj fun w=>by rw[Io w,OA w,TC w,Lj w,LR w,FF w,Rp w,EG w];exact KI.symm
end
end Go.Proofs.YtofjebmoebhiiaaGreatDoor.Ev
