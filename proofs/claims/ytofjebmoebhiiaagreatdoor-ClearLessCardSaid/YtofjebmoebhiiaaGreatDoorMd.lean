/- YtofjebmoebhiiaaGreatDoorMd: a part of the proof (Tab, Defs, Eqchain ..). No condition. -/
import Derived.Test.YtofjebmoebhiiaaGreatDoorMc
import Derived.KernelRfl
import Derived.Test.YtofjebmoebhiiaaGreatDoorProg
import Derived.Test.YtofjebmoebhiiaaGreatDoorTie
import Derived.Test.YtofjebmoebhiiaaGreatDoorCards
import Derived.WalkKit
import Derived.ProofKit
import Derived.OpenShut
import Derived.ShutString
import Derived.ChangeOld
import Derived.Below
import Derived.SizedLaws
import Derived.LaidMore
import Derived.Stop.Joined
import Derived.Shelf.SlLaysF0
import Derived.Shelf.SlSortCmp.NoneTotal
set_option linter.unusedVariables false
set_option linter.unusedSimpArgs false
set_option maxRecDepth 100000
set_option exponentiation.threshold 2000
namespace Go.Proofs.YtofjebmoebhiiaaGreatDoor.Ev
open Go.Abs
abbrev ff:Bool:=false
abbrev zI:Ty:= .int .i64
abbrev zT:Ty:= .pair zI (.pair zI .unit)
abbrev zC:Ty:= .pair zI (.pair .str (.pair (.slice (.st zT)) .unit))
abbrev zR:Ty:= .pair zI (.pair .str (.pair (.ref 2) .unit))
abbrev zH:Ty:= .st (.pair zI (.pair (.slice (.st zC)) .unit))
abbrev zW:Ty:= .st (.pair (.slice (.slice zI)) (.pair (.slice zI) (.pair zI (.pair (.slice zI) .unit))))
abbrev zB:List (Ty×Option Nat):=[(.bool,none)]
def tys:List fJ:=[
 ⟨1, .fn,8,0,[],false⟩,
 ⟨2,zI,8,0,[],false⟩,
 ⟨3,zI,8,0,[],false⟩,
 ⟨4, .bool,1,0,[],false⟩,
 ⟨5,(.int .u8),1,0,[],false⟩,
 ⟨6,(.int .u8),1,0,[],false⟩,
 ⟨7,(.st (.pair zI (.pair zI (.pair .bool (.pair (.int .u8) .unit))))),24,0,[(0,1),(1,1),(2,1),(3,1)],false⟩,
 ⟨8,(.st (.pair zI (.pair zI (.pair .bool (.pair (.int .u8) .unit))))),24,0,[(0,1),(1,1),(2,1),(3,1)],false⟩,
 ⟨9, .str,16,0,[],false⟩,
 ⟨10, .str,16,0,[],false⟩,
 ⟨11, .str,16,0,[],false⟩,
 ⟨12,(.int .u64),8,0,[],false⟩,
 ⟨13,(.st (.pair .str (.pair (.int .u64) .unit))),24,0,[(0,1),(1,1)],false⟩,
 ⟨14,(.st (.pair .str (.pair (.int .u64) .unit))),24,0,[(0,1),(1,1)],false⟩,
 ⟨21,(.int .i32),4,0,[],false⟩,
 ⟨22,(.slice (.st zC)),24,42,[],false⟩,
 ⟨23,(.st (.pair zI (.pair (.ref 0) .unit))),32,0,[(0,1),(1,1)],false⟩,
 ⟨24,(.st (.pair zI (.pair (.ref 0) .unit))),32,0,[(0,1),(1,1)],false⟩,
 ⟨25,(.slice (.slice zI)),24,26,[],false⟩,
 ⟨26,(.slice zI),24,3,[],false⟩,
 ⟨27,zW,80,0,[(0,1),(1,1),(2,1),(3,1)],false⟩,
 ⟨28,zW,80,0,[(0,1),(1,1),(2,1),(3,1)],false⟩,
 ⟨29, .fn,8,0,[],false⟩,
 ⟨30, .fn,8,0,[],false⟩,
 ⟨31, .fn,8,0,[],false⟩,
 ⟨32,(.slice (.st (.pair zI (.pair (.ref 0) .unit)))),24,24,[],false⟩,
 ⟨33, .fn,8,0,[],false⟩,
 ⟨34,zI,8,0,[],false⟩,
 ⟨35, .fn,8,0,[],false⟩,
 ⟨37, .fn,8,0,[],false⟩,
 ⟨38, .fn,8,0,[],false⟩,
 ⟨39, .str,16,0,[],false⟩,
 ⟨40,(.slice (.st zT)),24,44,[],false⟩,
 ⟨41,(.st zC),48,0,[(0,1),(1,1),(2,1)],false⟩,
 ⟨42,(.st zC),48,0,[(0,1),(1,1),(2,1)],false⟩,
 ⟨43,(.st zT),16,0,[(0,1),(1,1)],false⟩,
 ⟨44,(.st zT),16,0,[(0,1),(1,1)],false⟩,
 ⟨45, .fn,8,0,[],false⟩,
 ⟨46,(.slice (.st zT)),24,58,[],false⟩,
 ⟨47,(.st zT),16,0,[(0,1),(1,1)],false⟩,
 ⟨48,(.st zT),16,0,[(0,1),(1,1)],false⟩,
 ⟨50, .fn,8,0,[],false⟩,
 ⟨51, .fn,8,0,[],false⟩,
 ⟨53, .fn,8,0,[],false⟩,
 ⟨54, .fn,8,0,[],false⟩,
 ⟨55, .fn,8,0,[],false⟩,
 ⟨56, .fn,8,0,[],false⟩,
 ⟨57,(.st zT),16,0,[(0,1),(1,1)],false⟩,
 ⟨58,(.st zT),16,0,[(0,1),(1,1)],false⟩,
 ⟨59, .fn,8,0,[],false⟩,
 ⟨60, .fn,8,0,[],false⟩,
 ⟨61, .fn,8,0,[],false⟩,
 ⟨62,(.slice (.st (.pair (.slice zI) (.pair .str .unit)))),24,101,[],false⟩,
 ⟨63,(.slice (.st (.pair (.slice zI) (.pair .str .unit)))),24,101,[],false⟩,
 ⟨64, .fn,8,0,[],false⟩,
 ⟨65, .fn,8,0,[],false⟩,
 ⟨66, .fn,8,0,[],false⟩,
 ⟨67, .fn,8,0,[],false⟩,
 ⟨68, .fn,8,0,[],false⟩,
 ⟨69, .fn,8,0,[],false⟩,
 ⟨70, .fn,8,0,[],false⟩,
 ⟨71, .fn,8,0,[],false⟩,
 ⟨72, .fn,8,0,[],false⟩,
 ⟨73,(.slice (.int .u32)),24,168,[],false⟩,
 ⟨74,(.st (.pair .bool (.pair (.slice (.int .u32)) .unit))),32,0,[(0,1),(1,1)],false⟩,
 ⟨75,(.st (.pair .bool (.pair (.slice (.int .u32)) .unit))),32,0,[(0,1),(1,1)],false⟩,
 ⟨76,(.st (.pair (.st (.pair .bool (.pair (.slice (.int .u32)) .unit))) (.pair (.st (.pair .bool (.pair (.slice (.int .u32)) .unit))) .unit))),64,0,[(0,2),(2,2)],false⟩,
 ⟨77,(.st (.pair (.st (.pair .bool (.pair (.slice (.int .u32)) .unit))) (.pair (.st (.pair .bool (.pair (.slice (.int .u32)) .unit))) .unit))),64,0,[(0,2),(2,2)],false⟩,
 ⟨79, .fn,8,0,[],false⟩,
 ⟨80, .fn,8,0,[],false⟩,
 ⟨81, .fn,8,0,[],false⟩,
 ⟨83, .fn,8,0,[],false⟩,
 ⟨84, .fn,8,0,[],false⟩,
 ⟨85,(.st (.pair .fn (.pair .bool .unit))),16,0,[(0,1),(1,1)],false⟩,
 ⟨86,(.st (.pair .fn (.pair .bool .unit))),16,0,[(0,1),(1,1)],false⟩,
 ⟨87, .fn,8,0,[],false⟩,
 ⟨88, .fn,8,0,[],false⟩,
 ⟨89,(.ptr 5),8,0,[],false⟩,
 ⟨90, .fn,8,0,[],false⟩,
 ⟨91, .fn,8,0,[],false⟩,
 ⟨92, .fn,8,0,[],false⟩,
 ⟨93,(.slice .bool),24,4,[],false⟩,
 ⟨94,(.st (.pair zH (.pair (.ref 6) (.pair (.ref 4) (.pair (.ref 7) zT))))),120,0,[(0,2),(2,1),(3,1),(4,1),(5,1),(6,1)],false⟩,
 ⟨95,(.st (.pair zH (.pair (.ref 6) (.pair (.ref 4) (.pair (.ref 7) zT))))),120,0,[(0,2),(2,1),(3,1),(4,1),(5,1),(6,1)],false⟩,
 ⟨97, .fn,8,0,[],false⟩,
 ⟨98, .fn,8,0,[],false⟩,
 ⟨99,(.slice zI),24,3,[],false⟩,
 ⟨100,(.st (.pair (.slice zI) (.pair .str .unit))),40,0,[(0,1),(1,1)],false⟩,
 ⟨101,(.st (.pair (.slice zI) (.pair .str .unit))),40,0,[(0,1),(1,1)],false⟩,
 ⟨102, .fn,8,0,[],false⟩,
 ⟨103, .fn,8,0,[],false⟩,
 ⟨104,(.slice (.slice zI)),24,99,[],false⟩,
 ⟨105, .fn,8,0,[],false⟩,
 ⟨106,(.slice .str),24,39,[],false⟩,
 ⟨107, .fn,8,0,[],false⟩,
 ⟨109, .fn,8,0,[],false⟩,
 ⟨110, .fn,8,0,[],false⟩,
 ⟨111, .fn,8,0,[],false⟩,
 ⟨112, .fn,8,0,[],false⟩,
 ⟨113, .fn,8,0,[],false⟩,
 ⟨114, .fn,8,0,[],false⟩,
 ⟨115, .fn,8,0,[],false⟩,
 ⟨116, .fn,8,0,[],false⟩,
 ⟨117, .fn,8,0,[],false⟩,
 ⟨118, .str,16,0,[],false⟩,
 ⟨120, .fn,8,0,[],false⟩,
 ⟨121, .fn,8,0,[],false⟩,
 ⟨122, .fn,8,0,[],false⟩,
 ⟨123, .fn,8,0,[],false⟩,
 ⟨124, .fn,8,0,[],false⟩,
 ⟨125, .fn,8,0,[],false⟩,
 ⟨127, .fn,8,0,[],false⟩,
 ⟨129, .fn,8,0,[],false⟩,
 ⟨130, .fn,8,0,[],false⟩,
 ⟨131, .fn,8,0,[],false⟩,
 ⟨132, .fn,8,0,[],false⟩,
 ⟨133, .fn,8,0,[],false⟩,
 ⟨134, .fn,8,0,[],false⟩,
 ⟨135, .fn,8,0,[],false⟩,
 ⟨136,(.slice (.slice (.st zT))),24,40,[],false⟩,
 ⟨137, .fn,8,0,[],false⟩,
 ⟨138, .fn,8,0,[],false⟩,
 ⟨139, .fn,8,0,[],false⟩,
 ⟨141, .fn,8,0,[],false⟩,
 ⟨143, .fn,8,0,[],false⟩,
 ⟨145, .fn,8,0,[],false⟩,
 ⟨146, .fn,8,0,[],false⟩,
 ⟨147, .fn,8,0,[],false⟩,
 ⟨148, .fn,8,0,[],false⟩,
 ⟨149,(.int .u64),8,0,[],false⟩,
 ⟨150, .fn,8,0,[],false⟩,
 ⟨151, .fn,8,0,[],false⟩,
 ⟨152, .fn,8,0,[],false⟩,
 ⟨153, .fn,8,0,[],false⟩,
 ⟨154, .fn,8,0,[],false⟩,
 ⟨155, .fn,8,0,[],false⟩,
 ⟨156, .fn,8,0,[],false⟩,
 ⟨157, .fn,8,0,[],false⟩,
 ⟨158, .fn,8,0,[],false⟩,
 ⟨159, .fn,8,0,[],false⟩,
 ⟨160, .fn,8,0,[],false⟩,
 ⟨161, .fn,8,0,[],false⟩,
 ⟨163, .fn,8,0,[],false⟩,
 ⟨164, .fn,8,0,[],false⟩,
 ⟨165, .fn,8,0,[],false⟩,
 ⟨167, .fn,8,0,[],false⟩,
 ⟨168,(.int .u32),4,0,[],false⟩,
 ⟨169,(.slice (.int .u8)),24,5,[],false⟩,
 ⟨170, .fn,8,0,[],false⟩,
 ⟨171,(.int .u64),8,0,[],false⟩,
 ⟨172, .fn,8,0,[],false⟩,
 ⟨173, .fn,8,0,[],false⟩,
 ⟨175, .fn,8,0,[],false⟩,
 ⟨176, .fn,8,0,[],false⟩,
 ⟨177,zI,8,0,[],false⟩,
 ⟨179, .fn,8,0,[],false⟩,
 ⟨180, .fn,8,0,[],false⟩,
 ⟨181, .fn,8,0,[],false⟩,
 ⟨182, .fn,8,0,[],false⟩,
 ⟨183,zI,8,0,[],false⟩,
 ⟨185, .fn,8,0,[],false⟩,
 ⟨186, .fn,8,0,[],false⟩,
 ⟨187, .fn,8,0,[],false⟩,
 ⟨188, .fn,8,0,[],false⟩,
 ⟨189, .fn,8,0,[],false⟩,
 ⟨190, .fn,8,0,[],false⟩,
 ⟨191, .fn,8,0,[],false⟩,
 ⟨193, .fn,8,0,[],false⟩,
 ⟨194, .fn,8,0,[],false⟩,
 ⟨195, .fn,8,0,[],false⟩,
 ⟨196, .fn,8,0,[],false⟩,
 ⟨197, .fn,8,0,[],false⟩,
 ⟨198, .fn,8,0,[],false⟩,
 ⟨199, .fn,8,0,[],false⟩,
 ⟨200, .fn,8,0,[],false⟩,
 ⟨201, .fn,8,0,[],false⟩,
 ⟨202, .fn,8,0,[],false⟩,
 ⟨204, .fn,8,0,[],false⟩,
 ⟨205, .fn,8,0,[],false⟩,
 ⟨206, .fn,8,0,[],false⟩,
 ⟨207, .fn,8,0,[],false⟩,
 ⟨208,(.st zT),16,0,[(0,1),(1,1)],true⟩,
 ⟨209,(.int .u64),8,0,[],false⟩,
 ⟨210, .fn,8,0,[],false⟩,
 ⟨211, .fn,8,0,[],false⟩,
 ⟨212, .fn,8,0,[],false⟩,
 ⟨214, .fn,8,0,[],false⟩,
 ⟨216, .fn,8,0,[],false⟩,
 ⟨217, .fn,8,0,[],false⟩,
 ⟨218, .fn,8,0,[],false⟩,
 ⟨219, .fn,8,0,[],false⟩,
 ⟨220, .fn,8,0,[],false⟩,
 ⟨221, .fn,8,0,[],false⟩,
 ⟨224, .fn,8,0,[],false⟩,
 ⟨225, .fn,8,0,[],false⟩,
 ⟨227, .fn,8,0,[],false⟩,
 ⟨228, .fn,8,0,[],false⟩,
 ⟨234,(.int .u8),1,0,[],false⟩,
 ⟨235,(.int .u8),1,0,[],false⟩,
 ⟨236, .fn,8,0,[],false⟩,
 ⟨238,(.int .i32),4,0,[],false⟩,
 ⟨239,(.int .i32),4,0,[],false⟩]
def ae:List HT:=[⟨42,(.st zC),0⟩,⟨42,(.st zR),0⟩,⟨44,(.st zT),0⟩,⟨58,(.st zT),0⟩,⟨3,zI,0⟩,⟨95,(.st (.pair zH (.pair (.ref 6) (.pair (.ref 4) (.pair (.ref 7) zT))))),1⟩,⟨26,(.px zI),0⟩,⟨4, .bool,0⟩,⟨101,(.st (.pair (.ref 4) (.pair .str .unit))),0⟩,⟨24,zH,0⟩,⟨26,(.ref 4),0⟩]
def aoM:List (Nat×Nat):=[(100045,45),(100145,45),(100046,46),(100146,46),(100018,18),(100084,84),(101038,38),(102038,38),(100040,40),(100070,70),(100071,70),(100109,109),(100110,109)]
def real (v:Nat):Nat:=bif Nat.blt v 100000 then v else (Go.Abs.look aoM v).getD 0
def sigs:List (Nat×IE):=[
 (3,⟨[.v zH, .v zW],zB,none,[],none⟩),
 (4,⟨[.v zH, .v zW],zB,none,[],none⟩),
 (5,⟨[.v zH, .v zW],zB,none,[],none⟩),
 (6,⟨[.v zH, .v zW],zB,none,[],none⟩),
 (7,⟨[],zB,none,[],none⟩),
 (8,⟨[.v zW],zB,none,[],none⟩),
 (9,⟨[.v zW],zB,none,[],none⟩),
 (10,⟨[.v zW],zB,none,[],none⟩),
 (11,⟨[.v zW],zB,none,[],none⟩),
 (12,⟨[.v zH, .v zI],zB,none,[],none⟩),
 (13,⟨[],zB,none,[],none⟩),
 (14,⟨[.v zW, .v zI],[(zH,none)],none,[],none⟩),
 (15,⟨[.v zH],[((.st (.pair zI (.pair (.ref 0) .unit))),none)],none,[(0,true)],none⟩),
 (16,⟨[.v zH],[(zI,none)],none,[],none⟩),
 (17,⟨[.v zH],[(zH,none)],none,[],none⟩),
 (18,⟨[.v zH],[(zH,none),(zI,none)],none,[],none⟩),
 (19,⟨[.v zH, .v zH],zB,none,[],none⟩),
 (20,⟨[.v zH],[((.slice (.st zT)),none),((.st zT),none),(zI,none)],none,[],none⟩),
 (21,⟨[.v (.slice (.st zT)), .v (.st zT)],zB,none,[],none⟩),
 (22,⟨[.v zH],[((.slice (.st zT)),none),(zI,none),(zI,none)],none,[],none⟩),
 (23,⟨[.v (.slice (.st zT)), .v (.slice (.st zT))],zB,none,[],none⟩),
 (24,⟨[.v zH],[((.slice (.st zT)),none),((.st zT),none),(zI,none)],none,[],none⟩),
 (25,⟨[.v zH],[((.slice (.st zT)),none),(zI,none),(zI,none)],none,[],none⟩),
 (26,⟨[.v zH],[((.slice (.st zT)),none),((.st zT),none),(zI,none)],none,[],none⟩),
 (27,⟨[.v zH],[((.slice (.st zT)),none),(zI,none),(zI,none)],none,[],none⟩),
 (28,⟨[],[(zH,none)],none,[],none⟩),
 (29,⟨[.v zH],[((.slice (.st zT)),none)],none,[],none⟩),
 (30,⟨[.v (.slice (.st zT)), .v (.slice (.st zT))],zB,none,[],none⟩),
 (31,⟨[.v (.slice zI)],[((.slice (.st zT)),some 44)],none,[],none⟩),
 (32,⟨[.v (.slice (.slice zI)), .v (.slice zI), .v zI, .v zI, .v zI],[((.slice (.st (.pair (.slice zI) (.pair .str .unit)))),none)],none,[],none⟩),
 (33,⟨[.v (.slice (.st (.pair (.slice zI) (.pair .str .unit)))), .v zI],[(zH,none),(zI,none)],none,[],none⟩),
 (34,⟨[.v zI],[(zI,none)],none,[],none⟩),
 (35,⟨[.v zH, .v zI, .v zI, .v zI, .v zI],[(zH,none)],none,[],none⟩),
 (36,⟨[.v zI],zB,none,[],none⟩),
 (37,⟨[.v zH, .v zI],[(zI,none)],none,[],none⟩),
 (38,⟨[.v (.slice (.st zT)), .v zI],[((.slice zI),none)],none,[],none⟩),
 (39,⟨[.v .str],[(.str,none)],none,[],none⟩),
 (40,⟨[.v (.slice zI)],[((.slice (.st zT)),none)],none,[],none⟩),
 (41,⟨[.v zH],[(zI,none)],none,[],none⟩),
 (42,⟨[.v .str],[((.st (.pair (.st (.pair .bool (.pair (.slice (.int .u32)) .unit))) (.pair (.st (.pair .bool (.pair (.slice (.int .u32)) .unit))) .unit))),none),(.bool,none)],none,[],none⟩),
 (43,⟨[.v (.st (.pair (.st (.pair .bool (.pair (.slice (.int .u32)) .unit))) (.pair (.st (.pair .bool (.pair (.slice (.int .u32)) .unit))) .unit)))],[((.st (.pair (.st (.pair .bool (.pair (.slice (.int .u32)) .unit))) (.pair (.st (.pair .bool (.pair (.slice (.int .u32)) .unit))) .unit))),none)],none,[],none⟩),
 (44,⟨[.v (.st (.pair (.st (.pair .bool (.pair (.slice (.int .u32)) .unit))) (.pair (.st (.pair .bool (.pair (.slice (.int .u32)) .unit))) .unit)))],[(.str,none)],none,[],none⟩),
 (47,⟨[.v zH],[((.ptr 5),none)],none,[(5,true),(6,true),(4,true),(7,true)],none⟩),
 (48,⟨[.v (.ptr 5), .v zI],[],none,[(5,true),(6,true),(4,true),(7,true)],none⟩),
 (49,⟨[.v (.ptr 5)],[((.slice (.st zT)),none)],none,[(5,ff),(6,ff),(4,ff),(7,ff)],none⟩),
 (50,⟨[.v (.ref 3), .fn 51 []],[],none,[(3,true)],none⟩),
 (51,⟨[.v (.st zT), .v (.st zT)],[(zI,none)],none,[],none⟩),
 (52,⟨[.v zH, .v zI, .v zI],[(zI,none)],none,[],none⟩),
 (53,⟨[.v (.slice (.slice zI))],[((.slice (.slice zI)),none)],none,[],none⟩),
 (54,⟨[.v (.slice (.slice zI)), .v zI, .v zI, .v zI],[((.slice (.slice zI)),none)],none,[],none⟩),
 (55,⟨[.v zI],[(.str,none)],none,[],none⟩),
 (56,⟨[.v (.slice (.slice zI)), .v (.slice .str)],[((.slice (.st (.pair (.slice zI) (.pair .str .unit)))),none),(zI,none)],none,[],none⟩),
 (57,⟨[.v (.slice (.st (.pair (.slice zI) (.pair .str .unit))))],[(zI,none)],none,[],none⟩),
 (58,⟨[.v (.slice zI)],[((.slice (.slice zI)),none)],none,[],none⟩),
 (59,⟨[.v (.slice zI), .v (.slice zI)],[(zI,none)],none,[],none⟩),
 (60,⟨[.v zI, .v zI],[(zI,none)],none,[],none⟩),
 (61,⟨[.v .str],zB,none,[],none⟩),
 (62,⟨[.v zI, .v (.slice (.st zT))],[(zI,none)],none,[],none⟩),
 (63,⟨[.v zH, .v (.slice (.st zT))],[((.slice zI),none)],none,[],none⟩),
 (64,⟨[.v .str, .v .str],[(zI,none)],none,[],none⟩),
 (65,⟨[.v .str],[(.str,none),(.str,none),(.bool,none)],none,[],none⟩),
 (66,⟨[.v .str],[(.str,none)],none,[],none⟩),
 (67,⟨[.v zI],zB,none,[],none⟩),
 (68,⟨[.v .str],zB,none,[],none⟩),
 (69,⟨[.v zI, .v (.slice (.st zT))],[(zI,none)],none,[],none⟩),
 (71,⟨[.v (.st zT), .rp zI],zB,none,[],none⟩),
 (72,⟨[.v (.st zT), .rp zH, .rp (.st zC)],zB,none,[],none⟩),
 (73,⟨[.v zH, .v (.slice (.st zT))],[((.slice (.st zT)),none)],none,[],none⟩),
 (74,⟨[.v (.st (.pair (.st (.pair .bool (.pair (.slice (.int .u32)) .unit))) (.pair (.st (.pair .bool (.pair (.slice (.int .u32)) .unit))) .unit))), .v (.st (.pair (.st (.pair .bool (.pair (.slice (.int .u32)) .unit))) (.pair (.st (.pair .bool (.pair (.slice (.int .u32)) .unit))) .unit)))],[(zI,none)],none,[],none⟩),
 (75,⟨[.v .str, .v .str],[(.str,none),(.str,none),(.bool,none)],none,[],none⟩),
 (76,⟨[.v .str],[((.st (.pair .bool (.pair (.slice (.int .u32)) .unit))),none),(.bool,none)],none,[],none⟩),
 (77,⟨[.v zI],[((.st (.pair .bool (.pair (.slice (.int .u32)) .unit))),none)],none,[],none⟩),
 (78,⟨[.v (.st (.pair .bool (.pair (.slice (.int .u32)) .unit)))],[(zI,none)],none,[],none⟩),
 (79,⟨[.v (.st (.pair .bool (.pair (.slice (.int .u32)) .unit))), .v (.st (.pair .bool (.pair (.slice (.int .u32)) .unit)))],[(zI,none)],none,[],none⟩),
 (80,⟨[.v (.st (.pair .bool (.pair (.slice (.int .u32)) .unit))), .v (.st (.pair .bool (.pair (.slice (.int .u32)) .unit)))],[((.st (.pair .bool (.pair (.slice (.int .u32)) .unit))),none)],none,[],none⟩),
 (81,⟨[.v (.st (.pair .bool (.pair (.slice (.int .u32)) .unit)))],[((.st (.pair .bool (.pair (.slice (.int .u32)) .unit))),none)],none,[],none⟩),
 (82,⟨[.v (.st (.pair (.st (.pair .bool (.pair (.slice (.int .u32)) .unit))) (.pair (.st (.pair .bool (.pair (.slice (.int .u32)) .unit))) .unit)))],[((.st (.pair .bool (.pair (.slice (.int .u32)) .unit))),none)],none,[],none⟩),
 (83,⟨[.v (.st (.pair .bool (.pair (.slice (.int .u32)) .unit)))],[(.str,none)],none,[],none⟩),
 (84,⟨[.v (.slice (.st zT))],[((.slice (.st zT)),none)],none,[],none⟩),
 (85,⟨[.v (.slice (.st zT))],[(zI,none),(.bool,none)],none,[],none⟩),
 (86,⟨[.v zI, .v zI],[(zI,none),(zI,none)],none,[],none⟩),
 (87,⟨[.v zI, .v (.slice (.st zT)), .v zI, .v (.slice (.st zT))],[((.slice (.st zT)),none),(zI,none)],none,[],none⟩),
 (88,⟨[.v zI, .v zI],[(zI,none)],none,[],none⟩),
 (89,⟨[.v (.slice zI)],[(zI,none)],none,[],none⟩),
 (90,⟨[.v (.ref 3), .v zI, .v zI, .v zI, .fn 51 []],[],none,[(3,true)],none⟩),
 (91,⟨[.v (.int .u64)],[(zI,none)],none,[],none⟩),
 (92,⟨[.v zI, .v (.slice (.slice zI))],[(zI,none)],none,[],none⟩),
 (93,⟨[.v (.slice zI), .v zI, .v zI],[((.slice zI),none)],none,[],none⟩),
 (94,⟨[.v (.slice (.slice zI))],[((.slice (.slice zI)),none)],none,[],none⟩),
 (95,⟨[.v zI, .v zI],[(.str,none)],none,[],none⟩),
 (96,⟨[.v (.slice (.slice zI))],[(zI,none)],none,[],none⟩),
 (97,⟨[.v (.slice zI), .v (.slice zI)],zB,none,[],none⟩),
 (98,⟨[.v (.slice (.st (.pair (.slice zI) (.pair .str .unit))))],[((.slice (.st (.pair (.slice zI) (.pair .str .unit)))),none)],none,[],none⟩),
 (99,⟨[.v (.slice (.st (.pair (.slice zI) (.pair .str .unit)))), .v zI],[(zI,none)],none,[],none⟩),
 (100,⟨[.v (.slice (.st (.pair (.slice zI) (.pair .str .unit)))), .v zI, .v (.slice zI)],[(zI,none)],none,[],none⟩),
 (101,⟨[.v (.slice zI), .v zI],[((.slice zI),none)],none,[],none⟩),
 (102,⟨[.v .str],zB,none,[],none⟩),
 (103,⟨[.v .str],zB,none,[],none⟩),
 (104,⟨[.v .str, .v .str],[(zI,none)],none,[],none⟩),
 (105,⟨[.v .str, .v .str],[(.str,none)],none,[],none⟩),
 (106,⟨[.v .str],[(.bool,none),((.slice zI),none)],none,[],none⟩),
 (107,⟨[.v .bool, .v (.slice zI)],[(.str,none)],none,[],none⟩),
 (108,⟨[.v .str],[((.st (.pair (.st (.pair .bool (.pair (.slice (.int .u32)) .unit))) (.pair (.st (.pair .bool (.pair (.slice (.int .u32)) .unit))) .unit))),none),(.bool,none)],none,[],none⟩),
 (110,⟨[.v (.st (.pair .bool (.pair (.slice (.int .u32)) .unit))), .v (.st (.pair .bool (.pair (.slice (.int .u32)) .unit)))],[((.st (.pair .bool (.pair (.slice (.int .u32)) .unit))),none)],none,[],none⟩),
 (111,⟨[.v .str, .v .str],[(.str,none),(.str,none),(.bool,none)],none,[],none⟩),
 (112,⟨[.v .str, .v .str],[(.str,none),(.bool,none)],none,[],none⟩),
 (113,⟨[.v .bool, .v (.slice (.int .u32))],[((.st (.pair .bool (.pair (.slice (.int .u32)) .unit))),none)],none,[],none⟩),
 (114,⟨[.v (.slice (.int .u32)), .v (.slice (.int .u32))],[(zI,none)],none,[],none⟩),
 (115,⟨[.v zI, .v zI],[(zI,none)],none,[],none⟩),
 (116,⟨[.v (.slice (.int .u32))],[(zI,none)],none,[],none⟩),
 (117,⟨[.v (.slice (.int .u32)), .v (.slice (.int .u32))],[((.slice (.int .u32)),none),((.slice (.int .u32)),none)],none,[],none⟩),
 (118,⟨[.v (.slice (.int .u32))],[((.slice (.int .u32)),none)],none,[],none⟩),
 (119,⟨[.v zI],[(zI,none),(zI,none)],none,[],none⟩),
 (120,⟨[.v zI, .v zI],[(zI,none)],none,[],none⟩),
 (121,⟨[.v zI, .v zI],[(zI,none)],none,[],none⟩),
 (122,⟨[.v zI, .v (.slice (.slice (.st zT)))],[(zI,none)],none,[],none⟩),
 (123,⟨[.v zI, .v (.slice (.st zT)), .v zI, .v (.slice (.st zT))],[((.slice (.st zT)),none)],none,[],none⟩),
 (124,⟨[.v (.ref 3), .v zI, .v zI, .fn 51 []],[],none,[(3,true)],none⟩),
 (125,⟨[.v (.ref 3), .v zI, .v zI, .fn 51 []],[],none,[(3,true)],none⟩),
 (126,⟨[.v (.ref 3), .v zI, .v zI, .fn 51 []],[],none,[(3,true)],none⟩),
 (127,⟨[.v (.ref 3), .v zI, .v zI, .fn 51 []],[(zI,none),(zI,none)],none,[(3,true)],none⟩),
 (128,⟨[.v (.ref 3), .v zI, .v zI, .fn 51 []],[],none,[(3,true)],none⟩),
 (129,⟨[.v (.ref 3), .v zI, .v zI, .fn 51 []],zB,none,[(3,true)],none⟩),
 (130,⟨[.v (.ref 3), .v zI, .v zI, .v zI, .fn 51 []],[(zI,none)],none,[(3,true)],none⟩),
 (131,⟨[.v (.ref 3), .v zI, .v zI, .v zI, .fn 51 []],[(zI,none),(.bool,none)],none,[(3,true)],none⟩),
 (132,⟨[.v (.int .u32)],[(zI,none)],none,[],none⟩),
 (133,⟨[.v (.int .u64)],[(zI,none)],none,[],none⟩),
 (134,⟨[.v (.slice zI), .v zI],zB,none,[],none⟩),
 (135,⟨[.v (.slice zI)],[((.slice zI),none),(zI,none)],none,[],none⟩),
 (136,⟨[.v (.slice zI)],[((.slice (.slice zI)),none)],none,[],none⟩),
 (137,⟨[.v (.slice (.slice zI)), .v (.slice zI)],[((.slice (.slice zI)),none)],none,[],none⟩),
 (138,⟨[.v .str, .v .str],[(.str,none)],none,[],none⟩),
 (139,⟨[.v zI],[(.str,none)],none,[],none⟩),
 (140,⟨[.v (.slice zI)],[(zI,none)],none,[],none⟩),
 (141,⟨[.v (.slice (.slice zI)), .v (.slice zI)],[(zI,none)],none,[],none⟩),
 (142,⟨[.v (.slice (.st (.pair (.slice zI) (.pair .str .unit))))],[((.ref 8),none)],none,[(8,true),(4,true)],none⟩),
 (143,⟨[.v .str],zB,none,[],none⟩),
 (144,⟨[.v .str],zB,none,[],none⟩),
 (145,⟨[.v .str, .v .str],[(.str,none)],none,[],none⟩),
 (146,⟨[.v (.slice zI), .v (.slice zI)],[(zI,none)],none,[],none⟩),
 (147,⟨[.v .str],[(zI,none),(.bool,none)],none,[],none⟩),
 (148,⟨[.v (.slice zI)],[((.slice zI),none)],none,[],none⟩),
 (149,⟨[.v (.st (.pair (.st (.pair .bool (.pair (.slice (.int .u32)) .unit))) (.pair (.st (.pair .bool (.pair (.slice (.int .u32)) .unit))) .unit)))],zB,none,[],none⟩),
 (150,⟨[.v .str, .v .str],[(zI,none)],none,[],none⟩),
 (151,⟨[.v .str, .v .str],[(.str,none),(.bool,none)],none,[],none⟩),
 (152,⟨[.v (.slice (.int .u32)), .v (.int .u32)],[((.slice (.int .u32)),none),((.int .u32),none)],none,[],none⟩),
 (153,⟨[.v (.slice (.int .u32)), .v (.slice (.int .u32))],[((.slice (.int .u32)),none),((.slice (.int .u32)),none)],none,[],none⟩),
 (154,⟨[.v zI, .v zI, .v zI],[(zI,none)],none,[],none⟩),
 (155,⟨[.v (.slice (.st zT)), .v (.slice (.st zT))],[],some (171,[(.slice (.st zT)),(.slice (.st zT))]),[],none⟩),
 (156,⟨[.v (.ref 3), .v zI, .v zI, .v zI, .fn 51 []],[],none,[(3,true)],none⟩),
 (157,⟨[.v zI],[((.int .u64),none)],none,[],none⟩),
 (161,⟨[.v .str, .v .str],[(.str,none),(.str,none)],none,[],none⟩),
 (162,⟨[.v .str],[(zI,none)],none,[],none⟩),
 (163,⟨[.v .str],[(.str,none)],none,[],none⟩),
 (164,⟨[.v (.st (.pair .bool (.pair (.slice (.int .u32)) .unit)))],zB,none,[],none⟩),
 (165,⟨[.v .str, .v (.int .u8)],[(zI,none)],none,[],none⟩),
 (167,⟨[.v zI],[(zI,none)],none,[],none⟩),
 (168,⟨[.v .str, .v .str],[(zI,none)],none,[],none⟩),
 (169,⟨[.v .str, .v .str],zB,none,[],none⟩),
 (170,⟨[.v (.slice (.int .u32)), .v (.int .u32)],[((.slice (.int .u32)),some 168)],none,[],none⟩),
 (171,⟨[.Ly, .bx (.slice (.st zT)), .bx (.slice (.st zT))],[],none,[],some [zI,(.st zT)]⟩),
 (173,⟨[.v (.slice zI), .v (.slice zI)],[((.slice zI),none)],none,[],none⟩),
 (174,⟨[.v .str, .v .str],[(.str,none)],none,[],none⟩),
 (175,⟨[.v .str, .v .str],[(.str,none)],none,[],none⟩),
 (176,⟨[.v (.st (.pair .bool (.pair (.slice (.int .u32)) .unit)))],[(zI,none)],none,[],none⟩),
 (178,⟨[.v .str],[((.int .u32),none),((.int .u32),none)],none,[],none⟩),
 (179,⟨[.v (.slice zI), .v (.slice zI)],[((.slice zI),none)],none,[],none⟩),
 (196,⟨[.v zH],[],some (197,[zH]),[],none⟩),
 (197,⟨[.Ly, .bx zH],[],none,[],some [zI]⟩),
 (198,⟨[.v zH],[],some (199,[zH]),[],none⟩),
 (199,⟨[.Ly, .bx zH],[],none,[],some [zI]⟩),
 (100045,⟨[.v zH, .c [⟨.fn,(197:Nat)⟩,⟨.bool,false⟩], .fn 46 []],[((.ref 3),none),((.st zT),none),(zI,none)],none,[(3,true)],none⟩),
 (100145,⟨[.v zH, .c [⟨.fn,(199:Nat)⟩,⟨.bool,true⟩], .fn 46 []],[((.ref 3),none),((.st zT),none),(zI,none)],none,[(3,true)],none⟩),
 (100046,⟨[.c [⟨.fn,(197:Nat)⟩,⟨.bool,false⟩], .v zH],[((.ref 3),none),((.st zT),none)],none,[(3,true)],none⟩),
 (100146,⟨[.c [⟨.fn,(199:Nat)⟩,⟨.bool,true⟩], .v zH],[((.ref 3),none),((.st zT),none)],none,[(3,true)],none⟩),
 (100018,⟨[.v zH],[((.st (.pair zI (.pair (.ref 1) .unit))),none),(zI,none)],none,[(1,true),(2,true)],none⟩),
 (100084,⟨[.v (.px (.st zT))],[((.slice (.st zT)),none)],none,[],none⟩),
 (101038,⟨[.v (.slice (.st zT)), .v zI],[((.slice zI),some 3)],none,[],none⟩),
 (102038,⟨[.v (.slice (.st zT)), .v zI],[((.ref 4),none)],none,[(4,true)],none⟩),
 (100040,⟨[.v (.ref 4)],[((.slice (.st zT)),none)],none,[(4,ff)],none⟩),
 (100070,⟨[.v (.slice (.st zT)), .fn 71 [zI]],zB,none,[],none⟩),
 (100071,⟨[.v (.slice (.st zT)), .fn 72 [zH,(.st zC)]],zB,none,[],none⟩),
 (100109,⟨[.v (.slice (.st zT)), .fn 71 [zI]],[(zI,none)],none,[],none⟩),
 (100110,⟨[.v (.slice (.st zT)), .fn 72 [zH,(.st zC)]],[(zI,none)],none,[],none⟩)]
def sig (v:Nat):IE:=(Go.Abs.look sigs v).getD ⟨[],[],none,[],none⟩
def aoN:List (Nat×List Nat):=[(45,[100045,100145]),(46,[100046,100146]),(70,[100070,100071]),(109,[100109,100110])]
def ajE (f:Nat):List Nat:=(Go.Abs.look aoN f).getD [f]
def hints:List (Nat×List (List (Nat×Bool))):=[
 (3,[[(21,ff),(22,ff),(23,ff)],[(6,ff),(7,ff),(8,ff),(9,ff),(10,ff),(21,ff),(22,ff),(23,ff)],[(6,ff),(7,ff),(8,ff),(9,ff),(10,ff),(11,ff),(21,ff),(22,ff),(23,ff),(61,ff),(62,ff)],[(6,ff),(7,ff),(8,ff),(9,ff),(10,ff),(11,ff),(13,ff),(21,ff),(22,ff),(23,ff),(61,ff),(62,ff),(71,ff),(72,ff)]]),
 (4,[[(20,ff),(21,ff),(22,ff)]]),
 (5,[[(20,ff),(21,ff),(22,ff)]]),
 (6,[[(20,ff),(21,ff),(22,ff)]]),
 (9,[[(4,ff),(10,ff),(60,ff),(61,ff),(62,ff)],[(4,ff),(10,ff),(15,ff),(16,ff),(60,ff),(61,ff),(62,ff),(86,ff),(87,ff),(88,ff)]]),
 (10,[[(5,ff),(6,ff),(8,ff),(9,ff),(11,ff),(12,ff),(13,ff),(38,ff),(39,ff),(40,ff)]]),
 (12,[[(13,ff),(14,ff),(15,ff)]]),
 (14,[[(2,ff),(4,ff),(7,ff),(9,ff)],[(2,ff),(4,ff),(7,ff),(9,ff),(10,ff),(11,ff),(12,ff)]]),
 (15,[[(1,ff),(2,ff),(3,ff),(4,ff)]]),
 (16,[[(1,ff),(3,ff)]]),
 (17,[[(1,ff),(2,ff),(3,ff),(4,ff),(5,ff)],[(1,ff),(2,ff),(3,ff),(4,ff),(5,ff),(6,ff),(7,ff),(8,ff)]]),
 (18,[[(1,ff),(2,ff),(5,ff),(6,ff),(34,ff),(35,ff)],[(1,ff),(2,ff),(5,ff),(6,ff),(11,ff)],[(1,ff),(2,ff),(5,ff),(6,ff),(11,ff),(78,ff),(79,ff),(80,ff)]]),
 (19,[[(2,ff),(3,ff),(5,ff)]]),
 (22,[[(1,ff),(5,ff),(6,ff)]]),
 (23,[[(0,ff),(1,ff),(5,ff)]]),
 (25,[[(1,ff),(5,ff),(6,ff)],[(1,ff),(5,ff),(6,ff),(7,ff)]]),
 (26,[[(3,ff),(7,ff),(8,ff),(9,ff),(31,ff),(32,ff),(33,ff)]]),
 (27,[[(5,ff),(6,ff),(7,ff),(8,ff),(9,ff),(10,ff)],[(5,ff),(6,ff),(7,ff),(8,ff),(9,ff),(11,ff)],[(5,ff),(7,ff),(8,ff),(9,ff),(12,ff),(13,ff)]]),
 (29,[[(1,ff),(3,ff),(4,ff),(5,ff)],[(1,ff),(3,ff),(4,ff),(5,ff),(6,ff)],[(3,ff),(4,ff),(7,ff),(8,ff),(9,ff)],[(3,ff),(4,ff),(7,ff),(8,ff),(9,ff),(10,ff)],[(3,ff),(7,ff),(8,ff),(11,ff),(12,ff)]]),
 (30,[[(0,ff),(1,ff),(5,ff)]]),
 (31,[[(0,ff),(3,ff),(4,ff)]]),
 (32,[[(1,ff),(11,ff),(12,ff),(13,ff)]]),
 (33,[[(0,ff),(1,ff),(4,ff),(7,ff),(8,ff)],[(0,ff),(1,ff),(4,ff),(7,ff),(8,ff),(9,ff),(10,ff),(11,ff)],[(0,ff),(1,ff),(4,ff),(7,ff),(8,ff),(9,ff),(10,ff),(11,ff),(12,ff)]]),
 (35,[[(1,ff),(2,ff),(3,ff),(4,ff),(5,ff),(10,ff),(11,ff),(12,ff),(13,ff),(14,ff),(15,ff),(16,ff)],[(1,ff),(2,ff),(4,ff),(5,ff),(10,ff),(11,ff),(12,ff),(17,ff)]]),
 (36,[[(0,ff),(3,ff)]]),
 (37,[[(1,ff),(2,ff),(5,ff),(7,ff)],[(1,ff),(2,ff),(5,ff),(8,ff)]]),
 (38,[[(0,ff),(5,ff),(6,ff)]]),
 (40,[[(0,ff),(3,ff),(4,ff)]]),
 (41,[[(1,ff),(3,ff),(18,ff),(19,ff),(20,ff)]]),
 (48,[[(0,ff),(1,ff),(4,ff),(5,ff)],[(0,ff),(1,ff),(4,ff),(5,ff),(6,ff),(7,ff),(8,ff)]]),
 (49,[[(0,ff),(3,ff),(4,ff)]]),
 (52,[[(1,ff),(2,ff),(3,ff),(7,ff),(8,ff)]]),
 (53,[[(0,ff),(3,ff),(4,ff)]]),
 (54,[[(0,ff),(1,ff),(2,ff),(3,ff),(9,ff),(10,ff)],[(11,ff),(37,ff),(38,ff),(39,ff)]]),
 (56,[[(0,ff),(1,ff),(7,ff)],[(0,ff),(1,ff),(8,ff),(9,ff)],[(0,ff),(1,ff),(8,ff),(9,ff),(10,ff),(11,ff)]]),
 (57,[[(0,ff),(3,ff)],[(0,ff),(3,ff),(5,ff),(6,ff)]]),
 (58,[[(0,ff),(3,ff),(4,ff)]]),
 (59,[[(0,ff),(1,ff),(5,ff)]]),
 (60,[[(0,ff),(1,ff),(5,ff)]]),
 (62,[[(0,ff),(1,ff),(5,ff)]]),
 (63,[[(1,ff),(2,ff),(5,ff),(6,ff)],[(1,ff),(2,ff),(5,ff),(6,ff),(7,ff),(8,ff)]]),
 (65,[[(0,ff),(5,ff)]]),
 (67,[[(0,ff),(4,ff)]]),
 (69,[[(0,ff),(1,ff),(10,ff),(11,ff),(12,ff)]]),
 (73,[[(2,ff),(4,ff),(7,ff),(8,ff),(9,ff)]]),
 (76,[[(2,ff),(4,ff),(5,ff),(6,ff),(7,ff)],[(2,ff),(4,ff),(5,ff),(6,ff),(7,ff),(8,ff),(44,ff),(45,ff),(46,ff)]]),
 (77,[[(2,ff),(3,ff),(4,ff),(5,ff)]]),
 (80,[[(4,ff),(5,ff),(6,ff)]]),
 (83,[[(1,ff),(3,ff),(19,ff),(20,ff),(21,ff)],[(1,ff),(3,ff),(5,ff),(19,ff),(20,ff),(21,ff),(25,ff)],[(1,ff),(3,ff)],[(3,ff),(6,ff),(7,ff)]]),
 (89,[[(0,ff),(3,ff)]]),
 (90,[[(0,ff),(1,ff),(2,ff),(3,ff),(4,ff),(10,ff),(11,ff)]]),
 (92,[[(0,ff),(1,ff),(5,ff),(6,ff)],[(0,ff),(5,ff),(7,ff),(8,ff)],[(0,ff),(5,ff),(7,ff),(8,ff),(9,ff)],[(0,ff),(5,ff),(7,ff),(8,ff),(10,ff),(11,ff)],[(0,ff),(5,ff),(7,ff),(8,ff),(10,ff),(11,ff),(12,ff),(13,ff)]]),
 (93,[[(0,ff),(1,ff),(2,ff),(7,ff),(8,ff)]]),
 (94,[[(0,ff),(3,ff),(4,ff)],[(0,ff),(3,ff),(4,ff),(5,ff),(6,ff)]]),
 (96,[[(0,ff),(3,ff)],[(0,ff),(3,ff),(5,ff),(6,ff)]]),
 (97,[[(0,ff),(1,ff),(5,ff)]]),
 (98,[[(3,ff),(4,ff)],[(3,ff),(4,ff),(5,ff)]]),
 (100,[[(0,ff),(1,ff),(2,ff),(7,ff)]]),
 (101,[[(0,ff),(1,ff),(5,ff),(6,ff)]]),
 (105,[[(9,ff),(10,ff),(11,ff),(12,ff),(13,ff),(14,ff)],[(9,ff),(10,ff),(11,ff),(12,ff),(13,ff),(14,ff),(15,ff)],[(9,ff),(11,ff),(13,ff),(16,ff)]]),
 (106,[[(0,ff),(4,ff),(5,ff),(6,ff)]]),
 (107,[[(1,ff),(5,ff),(6,ff)]]),
 (110,[[(2,ff),(3,ff),(4,ff),(5,ff),(20,ff),(21,ff),(22,ff)],[(2,ff),(3,ff),(4,ff),(5,ff),(6,ff),(7,ff),(8,ff),(20,ff),(21,ff),(22,ff),(28,ff),(29,ff),(30,ff)]]),
 (114,[[(0,ff),(1,ff),(5,ff)]]),
 (115,[[(0,ff),(1,ff)]]),
 (116,[[(0,ff),(3,ff),(4,ff)]]),
 (118,[[(0,ff)]]),
 (122,[[(0,ff),(8,ff),(9,ff),(10,ff)]]),
 (123,[[(4,ff),(6,ff),(9,ff)]]),
 (124,[[(0,ff),(1,ff),(2,ff),(3,ff),(8,ff)],[(0,ff),(1,ff),(2,ff),(3,ff),(8,ff),(9,ff)]]),
 (125,[[(0,ff),(3,ff),(8,ff),(9,ff),(10,ff),(11,ff)],[(0,ff),(3,ff),(8,ff),(9,ff),(12,ff)]]),
 (126,[[(0,ff),(1,ff),(8,ff),(9,ff),(10,ff),(11,ff)]]),
 (128,[[(0,ff),(8,ff),(9,ff)]]),
 (129,[[(0,ff),(1,ff),(2,ff),(3,ff),(9,ff),(10,ff)],[(0,ff),(1,ff),(2,ff),(3,ff),(9,ff),(10,ff)],[(0,ff),(1,ff),(2,ff),(3,ff),(9,ff),(10,ff),(11,ff)],[(0,ff),(1,ff),(2,ff),(3,ff),(9,ff),(10,ff),(12,ff)]]),
 (130,[[(0,ff),(1,ff),(4,ff),(11,ff),(12,ff)],[(0,ff),(1,ff),(4,ff),(11,ff),(12,ff)],[(0,ff),(1,ff),(4,ff),(11,ff),(12,ff)]]),
 (131,[[(0,ff),(1,ff),(4,ff),(12,ff),(13,ff)],[(0,ff),(1,ff),(4,ff),(12,ff),(13,ff)],[(0,ff),(1,ff),(4,ff),(12,ff),(13,ff)],[(0,ff),(1,ff),(4,ff),(12,ff),(13,ff)],[(0,ff),(1,ff),(4,ff),(12,ff),(13,ff)]]),
 (134,[[(0,ff),(1,ff),(5,ff)]]),
 (135,[[(4,ff),(5,ff),(6,ff)],[(4,ff),(5,ff),(6,ff),(7,ff)]]),
 (136,[[(0,ff),(3,ff),(4,ff)],[(0,ff),(3,ff),(4,ff),(5,ff),(6,ff)]]),
 (137,[[(0,ff),(1,ff),(5,ff),(6,ff),(7,ff)]]),
 (139,[[(3,ff),(5,ff)],[(0,ff),(6,ff)]]),
 (140,[[(0,ff),(3,ff)],[(0,ff),(4,ff)]]),
 (141,[[(0,ff),(1,ff),(5,ff)]]),
 (142,[[(0,ff),(3,ff),(4,ff)]]),
 (144,[[(3,ff),(4,ff)]]),
 (145,[[(5,ff),(6,ff)]]),
 (146,[[(0,ff),(1,ff),(5,ff)]]),
 (147,[[(0,ff),(4,ff),(5,ff)]]),
 (148,[[(0,ff)]]),
 (150,[[(0,ff),(1,ff),(5,ff),(6,ff),(7,ff),(8,ff),(9,ff),(10,ff)]]),
 (152,[[(0,ff),(1,ff),(6,ff),(7,ff),(8,ff)]]),
 (153,[[(4,ff),(6,ff),(7,ff),(8,ff),(9,ff),(10,ff)],[(4,ff),(6,ff),(7,ff),(8,ff),(9,ff),(10,ff),(12,ff),(13,ff)],[(4,ff),(6,ff),(7,ff),(8,ff),(9,ff),(10,ff),(12,ff),(14,ff),(123,ff),(124,ff)],[(4,ff),(6,ff),(7,ff),(8,ff),(9,ff),(10,ff),(12,ff),(17,ff),(18,ff),(188,ff),(189,ff)]]),
 (154,[[(0,ff),(2,ff),(7,ff),(8,ff)]]),
 (156,[[(0,ff),(2,ff),(3,ff),(4,ff),(10,ff)]]),
 (161,[[(1,ff),(12,ff),(13,ff),(14,ff),(15,ff),(17,ff),(18,ff),(19,ff)],[(1,ff),(12,ff),(13,ff),(14,ff),(15,ff),(17,ff),(18,ff),(19,ff),(20,ff)],[(1,ff),(12,ff),(14,ff),(17,ff),(18,ff),(21,ff)]]),
 (168,[[(0,ff),(1,ff),(5,ff),(6,ff),(7,ff),(8,ff),(9,ff)],[(0,ff),(1,ff),(5,ff),(6,ff),(7,ff),(8,ff),(10,ff)]]),
 (170,[[(1,ff),(5,ff),(6,ff),(13,ff),(14,ff),(15,ff)]]),
 (171,[[(0,ff),(1,ff),(2,ff)]]),
 (173,[[(0,ff),(1,ff),(5,ff),(6,ff),(7,ff)]]),
 (176,[[(3,ff),(4,ff)]]),
 (178,[[(0,ff),(4,ff),(5,ff)],[(4,ff),(6,ff),(7,ff),(8,ff)]]),
 (179,[[(0,ff),(1,ff),(5,ff),(6,ff),(7,ff)]]),
 (197,[[(0,ff),(6,ff),(7,ff)]]),
 (199,[[(0,ff),(1,ff),(3,ff)],[(0,ff),(1,ff),(3,ff),(11,ff),(12,ff),(13,ff)]]),
 (100046,[[(2,ff),(3,ff),(4,ff),(5,ff),(7,ff),(8,ff),(27,ff),(28,ff)],[(2,ff),(3,ff),(4,ff),(5,ff),(7,ff),(8,ff)],[(3,ff),(5,ff),(7,ff),(8,ff),(10,ff),(11,ff),(12,ff),(13,ff)],[(4,ff),(5,ff),(137,ff),(138,ff),(139,ff)]]),
 (100146,[[(2,ff),(3,ff),(4,ff),(5,ff),(7,ff),(8,ff),(27,ff),(28,ff)],[(2,ff),(3,ff),(4,ff),(5,ff),(7,ff),(8,ff)],[(3,ff),(5,ff),(7,ff),(8,ff),(10,ff),(11,ff),(12,ff),(13,ff)],[(4,ff),(5,ff),(137,ff),(138,ff),(139,ff)]]),
 (100018,[[(1,ff),(2,ff),(5,ff),(6,ff),(34,ff),(35,ff)],[(1,ff),(2,ff),(5,ff),(6,ff),(11,ff)],[(1,ff),(2,ff),(5,ff),(6,ff),(11,ff),(78,ff),(79,ff),(80,ff)]]),
 (101038,[[(0,ff),(5,ff),(6,ff)]]),
 (102038,[[(0,ff),(5,ff),(6,ff)]]),
 (100040,[[(0,ff),(3,ff),(4,ff)]]),
 (100109,[[(0,ff),(1,ff),(7,ff),(8,ff)]]),
 (100110,[[(0,ff),(1,ff),(7,ff),(8,ff)]])]
def hint (v:Nat):List (List (Nat×Bool)):=(Go.Abs.look hints v).getD []
def amI:List (Nat×List (Nat×Site)):=[(3,[(21, .heap 9),(41, .vid 100018)]),(4,[(20, .heap 9)]),(5,[(20, .heap 9)]),(6,[(20, .heap 9)]),(17,[(29, .heap 4),(64, .vid 100040)]),(18,[(30, .heap 1)]),(29,[(18, .heap 10),(28, .heap 4)]),(33,[(32, .heap 4),(87, .vid 100040)]),(35,[(28, .heap 4),(78, .vid 100040),(99, .vid 102038),(145, .vid 100040)]),(47,[(9, .heap 6),(11, .heap 4),(13, .heap 7)]),(48,[(29, .vid 101038)]),(92,[(5, .heap 10),(21, .heap 4),(27, .heap 10)]),(142,[(2, .heap 8),(3, .heap 8),(12, .heap 4),(25, .heap 8)]),(100045,[(6, .heap 3)]),(100145,[(6, .heap 3)]),(100046,[(4, .heap 3),(23, .px)]),(100146,[(4, .heap 3),(23, .px)]),(100018,[(30, .heap 1)]),(102038,[(4, .heap 4),(8, .heap 4)])]
def sites (v:Nat):List (Nat×Site):=(Go.Abs.look amI v).getD []
def T:cG:=⟨tys,ae,real,sig,ajE,hint,sites,[(1000000000, .pg [⟨.fn,(197:Nat)⟩,⟨.bool,false⟩]),(1000000001, .pg [⟨.fn,(199:Nat)⟩,⟨.bool,true⟩])],[48,58,44]⟩
noncomputable def fns:List (Nat×Func):=[
 (3,Tryz.f3),(4,Tryz.f4),(5,Tryz.f5),(6,Tryz.f6),(7,Tryz.f7),(8,Tryz.f8),(9,Tryz.f9),(10,Tryz.f10),(11,Tryz.f11),(12,Tryz.f12),(13,Tryz.f13),(14,Tryz.f14),(15,Tryz.f15),(16,Tryz.f16),(17,Tryz.f17),(18,Tryz.f18),(19,Tryz.f19),(20,Tryz.f20),(21,Tryz.f21),(22,Tryz.f22),(23,Tryz.f23),(24,Tryz.f24),(25,Tryz.f25),(26,Tryz.f26),(27,Tryz.f27),(28,Tryz.f28),(29,Tryz.f29),(30,Tryz.f30),(31,Tryz.f31),(32,Tryz.f32),(33,Tryz.f33),(34,Tryz.f34),(35,Tryz.f35),(36,Tryz.f36),(37,Tryz.f37),(38,Tryz.f38),(39,Tryz.f39),(40,Tryz.f40),(41,Tryz.f41),(42,Tryz.f42),(43,Tryz.f43),(44,Tryz.f44),(47,Tryz.f47),(48,Tryz.f48),(49,Tryz.f49),(50,Tryz.f50),(51,Tryz.f51),(52,Tryz.f52),(53,Tryz.f53),(54,Tryz.f54),(55,Tryz.f55),(56,Tryz.f56),(57,Tryz.f57),(58,Tryz.f58),(59,Tryz.f59),(60,Tryz.f60),(61,Tryz.f61),(62,Tryz.f62),(63,Tryz.f63),(64,Tryz.f64),(65,Tryz.f65),(66,Tryz.f66),(67,Tryz.f67),(68,Tryz.f68),(69,Tryz.f69),(71,Tryz.f71),(72,Tryz.f72),(73,Tryz.f73),(74,Tryz.f74),(75,Tryz.f75),(76,Tryz.f76),(77,Tryz.f77),(78,Tryz.f78),(79,Tryz.f79),(80,Tryz.f80),(81,Tryz.f81),(82,Tryz.f82),(83,Tryz.f83),(84,Tryz.f84),(85,Tryz.f85),(86,Tryz.f86),(87,Tryz.f87),(88,Tryz.f88),(89,Tryz.f89),(90,Tryz.f90),(91,Tryz.f91),(92,Tryz.f92),(93,Tryz.f93),(94,Tryz.f94),(95,Tryz.f95),(96,Tryz.f96),(97,Tryz.f97),(98,Tryz.f98),(99,Tryz.f99),(100,Tryz.f100),(101,Tryz.f101),(102,Tryz.f102),(103,Tryz.f103),(104,Tryz.f104),(105,Tryz.f105),(106,Tryz.f106),(107,Tryz.f107),(108,Tryz.f108),(110,Tryz.f110),(111,Tryz.f111),(112,Tryz.f112),(113,Tryz.f113),(114,Tryz.f114),(115,Tryz.f115),(116,Tryz.f116),(117,Tryz.f117),(118,Tryz.f118),(119,Tryz.f119),(120,Tryz.f120),(121,Tryz.f121),(122,Tryz.f122),(123,Tryz.f123),(124,Tryz.f124),(125,Tryz.f125),(126,Tryz.f126),(127,Tryz.f127),(128,Tryz.f128),(129,Tryz.f129),(130,Tryz.f130),(131,Tryz.f131),(132,Tryz.f132),(133,Tryz.f133),(134,Tryz.f134),(135,Tryz.f135),(136,Tryz.f136),(137,Tryz.f137),(138,Tryz.f138),(139,Tryz.f139),(140,Tryz.f140),(141,Tryz.f141),(142,Tryz.f142),(143,Tryz.f143),(144,Tryz.f144),(145,Tryz.f145),(146,Tryz.f146),(147,Tryz.f147),(148,Tryz.f148),(149,Tryz.f149),(150,Tryz.f150),(151,Tryz.f151),(152,Tryz.f152),(153,Tryz.f153),(154,Tryz.f154),(155,Tryz.f155),(156,Tryz.f156),(157,Tryz.f157),(161,Tryz.f161),(162,Tryz.f162),(163,Tryz.f163),(164,Tryz.f164),(165,Tryz.f165),(167,Tryz.f167),(168,Tryz.f168),(169,Tryz.f169),(170,Tryz.f170),(171,Tryz.f171),(173,Tryz.f173),(174,Tryz.f174),(175,Tryz.f175),(176,Tryz.f176),(178,Tryz.f178),(179,Tryz.f179),(196,Tryz.f196),(197,Tryz.f197),(198,Tryz.f198),(199,Tryz.f199),(100045,Tryz.f45),(100145,Tryz.f45),(100046,Tryz.f46),(100146,Tryz.f46),(100018,Tryz.f18),(100084,Tryz.f84),(101038,Tryz.f38),(102038,Tryz.f38),(100040,Tryz.f40),(100070,Tryz.f70),(100071,Tryz.f70),(100109,Tryz.f109),(100110,Tryz.f109)]
def Z1 (x:Int×Int×Unit):List (Int×Int×Unit)→List (Int×Int×Unit)
 | []=>[x]
 |y::r=>bif decide (x.1<y.1) then x::y::r else y::Z1 x r
def sN:List (Int×Int×Unit)→List (Int×Int×Unit)
 | []=>[]
 |x::r=>Z1 x (sN r)
def okT:List (Int×Int×Unit)→Bool
 | []=>true
 |x::r=>decide (0≤x.1)&&decide (x.1<1000000000)&&(r.all fun y=> !decide (x.1=y.1))&&okT r
def Wp (n:Nat)(hp:List (Option (List (Int×Int×Unit)))):Option (Unit×List (Option (List (Int×Int×Unit)))):=match n with
 |0=>some ((),hp)
 |n+1=>(ai hp (n+1)).bind fun l=>bif Nat.ble l.length 1000000&&okT l then some ((),ik hp (n+1) (sN l)) else none
def Va (c:Int)(i:Nat):List UInt8→Int
 | []=> -1
 |x::r=>bif ((x.toNat:Int)==c) then (i:Int) else Va c (i+1) r
def B:Mm T:=fun v=>match v with
 |50=>some fun(x:(Nat×Unit)×List (Option (List (Int×Int×Unit))))=>Wp x.1.1 x.2
 |84=>some fun(x:List (Int×Int×Unit))=>bif aG 16 2 0 x.length then some x else none
 |165=>some fun(x:ByteArray×Int)=>bif decide (0≤x.2)&&decide (x.2<256) then some (Va x.2 0 x.1.data.toList) else none
 |_=>none
theorem amJ:iG Tryz.prog T.rows:=amB (by kernel_rfl)
theorem mixed:Tryz.prog.follows .mixedOrders=true:=by kernel_rfl
theorem afe:Dt Tryz.prog T:=ahP (by kernel_rfl)
theorem akm:agQ Tryz.prog T:=amD (by kernel_rfl)
theorem ahX:S9 T:=akj (l:=sigs) (by kernel_rfl) fun _=>rfl
theorem ady:Mv Tryz.prog T:=⟨mixed,amJ,afe,akm,ahX⟩
theorem amK:ads Tryz.prog T (Go.Abs.look fns):=TM (
 ⟨⟨Tryz.func3,by kernel_rfl⟩,⟨⟨Tryz.func4,by kernel_rfl⟩,⟨⟨Tryz.func5,by kernel_rfl⟩,⟨⟨Tryz.func6,by kernel_rfl⟩,⟨⟨Tryz.func7,by kernel_rfl⟩,⟨⟨Tryz.func8,by kernel_rfl⟩,⟨⟨Tryz.func9,by kernel_rfl⟩,⟨⟨Tryz.func10,by kernel_rfl⟩,⟨⟨Tryz.func11,by kernel_rfl⟩,⟨⟨Tryz.func12,by kernel_rfl⟩,⟨⟨Tryz.func13,by kernel_rfl⟩,⟨⟨Tryz.func14,by kernel_rfl⟩,⟨⟨Tryz.func15,by kernel_rfl⟩,⟨⟨Tryz.func16,by kernel_rfl⟩,⟨⟨Tryz.func17,by kernel_rfl⟩,⟨⟨Tryz.func18,by kernel_rfl⟩,⟨⟨Tryz.func19,by kernel_rfl⟩,⟨⟨Tryz.func20,by kernel_rfl⟩,⟨⟨Tryz.func21,by kernel_rfl⟩,⟨⟨Tryz.func22,by kernel_rfl⟩,⟨⟨Tryz.func23,by kernel_rfl⟩,⟨⟨Tryz.func24,by kernel_rfl⟩,⟨⟨Tryz.func25,by kernel_rfl⟩,⟨⟨Tryz.func26,by kernel_rfl⟩,⟨⟨Tryz.func27,by kernel_rfl⟩,⟨⟨Tryz.func28,by kernel_rfl⟩,⟨⟨Tryz.func29,by kernel_rfl⟩,⟨⟨Tryz.func30,by kernel_rfl⟩,⟨⟨Tryz.func31,by kernel_rfl⟩,⟨⟨Tryz.func32,by kernel_rfl⟩,⟨⟨Tryz.func33,by kernel_rfl⟩,⟨⟨Tryz.func34,by kernel_rfl⟩,⟨⟨Tryz.func35,by kernel_rfl⟩,⟨⟨Tryz.func36,by kernel_rfl⟩,⟨⟨Tryz.func37,by kernel_rfl⟩,⟨⟨Tryz.func38,by kernel_rfl⟩,⟨⟨Tryz.func39,by kernel_rfl⟩,⟨⟨Tryz.func40,by kernel_rfl⟩,⟨⟨Tryz.func41,by kernel_rfl⟩,⟨⟨Tryz.func42,by kernel_rfl⟩,⟨⟨Tryz.func43,by kernel_rfl⟩,⟨⟨Tryz.func44,by kernel_rfl⟩,⟨⟨Tryz.func47,by kernel_rfl⟩,⟨⟨Tryz.func48,by kernel_rfl⟩,⟨⟨Tryz.func49,by kernel_rfl⟩,⟨⟨Tryz.func50,by kernel_rfl⟩,⟨⟨Tryz.func51,by kernel_rfl⟩,⟨⟨Tryz.func52,by kernel_rfl⟩,⟨⟨Tryz.func53,by kernel_rfl⟩,⟨⟨Tryz.func54,by kernel_rfl⟩,⟨⟨Tryz.func55,by kernel_rfl⟩,⟨⟨Tryz.func56,by kernel_rfl⟩,⟨⟨Tryz.func57,by kernel_rfl⟩,⟨⟨Tryz.func58,by kernel_rfl⟩,⟨⟨Tryz.func59,by kernel_rfl⟩,⟨⟨Tryz.func60,by kernel_rfl⟩,⟨⟨Tryz.func61,by kernel_rfl⟩,⟨⟨Tryz.func62,by kernel_rfl⟩,⟨⟨Tryz.func63,by kernel_rfl⟩,⟨⟨Tryz.func64,by kernel_rfl⟩,⟨⟨Tryz.func65,by kernel_rfl⟩,⟨⟨Tryz.func66,by kernel_rfl⟩,⟨⟨Tryz.func67,by kernel_rfl⟩,⟨⟨Tryz.func68,by kernel_rfl⟩,⟨⟨Tryz.func69,by kernel_rfl⟩,⟨⟨Tryz.func71,by kernel_rfl⟩,⟨⟨Tryz.func72,by kernel_rfl⟩,⟨⟨Tryz.func73,by kernel_rfl⟩,⟨⟨Tryz.func74,by kernel_rfl⟩,⟨⟨Tryz.func75,by kernel_rfl⟩,⟨⟨Tryz.func76,by kernel_rfl⟩,⟨⟨Tryz.func77,by kernel_rfl⟩,⟨⟨Tryz.func78,by kernel_rfl⟩,⟨⟨Tryz.func79,by kernel_rfl⟩,⟨⟨Tryz.func80,by kernel_rfl⟩,⟨⟨Tryz.func81,by kernel_rfl⟩,⟨⟨Tryz.func82,by kernel_rfl⟩,⟨⟨Tryz.func83,by kernel_rfl⟩,⟨⟨Tryz.func84,by kernel_rfl⟩,⟨⟨Tryz.func85,by kernel_rfl⟩,⟨⟨Tryz.func86,by kernel_rfl⟩,⟨⟨Tryz.func87,by kernel_rfl⟩,⟨⟨Tryz.func88,by kernel_rfl⟩,⟨⟨Tryz.func89,by kernel_rfl⟩,⟨⟨Tryz.func90,by kernel_rfl⟩,⟨⟨Tryz.func91,by kernel_rfl⟩,⟨⟨Tryz.func92,by kernel_rfl⟩,⟨⟨Tryz.func93,by kernel_rfl⟩,⟨⟨Tryz.func94,by kernel_rfl⟩,⟨⟨Tryz.func95,by kernel_rfl⟩,⟨⟨Tryz.func96,by kernel_rfl⟩,⟨⟨Tryz.func97,by kernel_rfl⟩,⟨⟨Tryz.func98,by kernel_rfl⟩,⟨⟨Tryz.func99,by kernel_rfl⟩,⟨⟨Tryz.func100,by kernel_rfl⟩,⟨⟨Tryz.func101,by kernel_rfl⟩,⟨⟨Tryz.func102,by kernel_rfl⟩,⟨⟨Tryz.func103,by kernel_rfl⟩,⟨⟨Tryz.func104,by kernel_rfl⟩,⟨⟨Tryz.func105,by kernel_rfl⟩,⟨⟨Tryz.func106,by kernel_rfl⟩,⟨⟨Tryz.func107,by kernel_rfl⟩,⟨⟨Tryz.func108,by kernel_rfl⟩,⟨⟨Tryz.func110,by kernel_rfl⟩,⟨⟨Tryz.func111,by kernel_rfl⟩,⟨⟨Tryz.func112,by kernel_rfl⟩,⟨⟨Tryz.func113,by kernel_rfl⟩,⟨⟨Tryz.func114,by kernel_rfl⟩,⟨⟨Tryz.func115,by kernel_rfl⟩,⟨⟨Tryz.func116,by kernel_rfl⟩,⟨⟨Tryz.func117,by kernel_rfl⟩,⟨⟨Tryz.func118,by kernel_rfl⟩,⟨⟨Tryz.func119,by kernel_rfl⟩,⟨⟨Tryz.func120,by kernel_rfl⟩,⟨⟨Tryz.func121,by kernel_rfl⟩,⟨⟨Tryz.func122,by kernel_rfl⟩,⟨⟨Tryz.func123,by kernel_rfl⟩,⟨⟨Tryz.func124,by kernel_rfl⟩,⟨⟨Tryz.func125,by kernel_rfl⟩,⟨⟨Tryz.func126,by kernel_rfl⟩,⟨⟨Tryz.func127,by kernel_rfl⟩,⟨⟨Tryz.func128,by kernel_rfl⟩,⟨⟨Tryz.func129,by kernel_rfl⟩,⟨⟨Tryz.func130,by kernel_rfl⟩,⟨⟨Tryz.func131,by kernel_rfl⟩,⟨⟨Tryz.func132,by kernel_rfl⟩,⟨⟨Tryz.func133,by kernel_rfl⟩,⟨⟨Tryz.func134,by kernel_rfl⟩,⟨⟨Tryz.func135,by kernel_rfl⟩,⟨⟨Tryz.func136,by kernel_rfl⟩,⟨⟨Tryz.func137,by kernel_rfl⟩,⟨⟨Tryz.func138,by kernel_rfl⟩,⟨⟨Tryz.func139,by kernel_rfl⟩,⟨⟨Tryz.func140,by kernel_rfl⟩,⟨⟨Tryz.func141,by kernel_rfl⟩,⟨⟨Tryz.func142,by kernel_rfl⟩,⟨⟨Tryz.func143,by kernel_rfl⟩,⟨⟨Tryz.func144,by kernel_rfl⟩,⟨⟨Tryz.func145,by kernel_rfl⟩,⟨⟨Tryz.func146,by kernel_rfl⟩,⟨⟨Tryz.func147,by kernel_rfl⟩,⟨⟨Tryz.func148,by kernel_rfl⟩,⟨⟨Tryz.func149,by kernel_rfl⟩,⟨⟨Tryz.func150,by kernel_rfl⟩,⟨⟨Tryz.func151,by kernel_rfl⟩,⟨⟨Tryz.func152,by kernel_rfl⟩,⟨⟨Tryz.func153,by kernel_rfl⟩,⟨⟨Tryz.func154,by kernel_rfl⟩,⟨⟨Tryz.func155,by kernel_rfl⟩,⟨⟨Tryz.func156,by kernel_rfl⟩,⟨⟨Tryz.func157,by kernel_rfl⟩,⟨⟨Tryz.func161,by kernel_rfl⟩,⟨⟨Tryz.func162,by kernel_rfl⟩,⟨⟨Tryz.func163,by kernel_rfl⟩,⟨⟨Tryz.func164,by kernel_rfl⟩,⟨⟨Tryz.func165,by kernel_rfl⟩,⟨⟨Tryz.func167,by kernel_rfl⟩,⟨⟨Tryz.func168,by kernel_rfl⟩,⟨⟨Tryz.func169,by kernel_rfl⟩,⟨⟨Tryz.func170,by kernel_rfl⟩,⟨⟨Tryz.func171,by kernel_rfl⟩,⟨⟨Tryz.func173,by kernel_rfl⟩,⟨⟨Tryz.func174,by kernel_rfl⟩,⟨⟨Tryz.func175,by kernel_rfl⟩,⟨⟨Tryz.func176,by kernel_rfl⟩,⟨⟨Tryz.func178,by kernel_rfl⟩,⟨⟨Tryz.func179,by kernel_rfl⟩,⟨⟨Tryz.func196,by kernel_rfl⟩,⟨⟨Tryz.func197,by kernel_rfl⟩,⟨⟨Tryz.func198,by kernel_rfl⟩,⟨⟨Tryz.func199,by kernel_rfl⟩,⟨⟨Tryz.func45,by kernel_rfl⟩,⟨⟨Tryz.func45,by kernel_rfl⟩,⟨⟨Tryz.func46,by kernel_rfl⟩,⟨⟨Tryz.func46,by kernel_rfl⟩,⟨⟨Tryz.func18,by kernel_rfl⟩,⟨⟨Tryz.func84,by kernel_rfl⟩,⟨⟨Tryz.func38,by kernel_rfl⟩,⟨⟨Tryz.func38,by kernel_rfl⟩,⟨⟨Tryz.func40,by kernel_rfl⟩,⟨⟨Tryz.func70,by kernel_rfl⟩,⟨⟨Tryz.func70,by kernel_rfl⟩,⟨⟨Tryz.func109,by kernel_rfl⟩,⟨⟨Tryz.func109,by kernel_rfl⟩,trivial⟩⟩⟩⟩⟩⟩⟩⟩⟩⟩⟩⟩⟩⟩⟩⟩⟩⟩⟩⟩⟩⟩⟩⟩⟩⟩⟩⟩⟩⟩⟩⟩⟩⟩⟩⟩⟩⟩⟩⟩⟩⟩⟩⟩⟩⟩⟩⟩⟩⟩⟩⟩⟩⟩⟩⟩⟩⟩⟩⟩⟩⟩⟩⟩⟩⟩⟩⟩⟩⟩⟩⟩⟩⟩⟩⟩⟩⟩⟩⟩⟩⟩⟩⟩⟩⟩⟩⟩⟩⟩⟩⟩⟩⟩⟩⟩⟩⟩⟩⟩⟩⟩⟩⟩⟩⟩⟩⟩⟩⟩⟩⟩⟩⟩⟩⟩⟩⟩⟩⟩⟩⟩⟩⟩⟩⟩⟩⟩⟩⟩⟩⟩⟩⟩⟩⟩⟩⟩⟩⟩⟩⟩⟩⟩⟩⟩⟩⟩⟩⟩⟩⟩⟩⟩⟩⟩⟩⟩⟩⟩⟩⟩⟩⟩⟩⟩⟩⟩⟩⟩⟩⟩⟩⟩⟩⟩⟩⟩⟩⟩⟩⟩⟩⟩)
noncomputable section
abbrev Gl:=Int×Int×Unit
abbrev dk:=List Gl
abbrev zqC:=Int×ByteArray×dk×Unit
abbrev xP:=List zqC
abbrev zqN:=Int×ByteArray×Nat×Unit
abbrev mJ:=Int×xP×Unit
noncomputable abbrev lf:Nat→Option Func:=Go.Abs.look fns
abbrev yT:Ty:= .pair (.int .i64) (.pair (.int .i64) .unit)
abbrev yC:Ty:= .pair (.int .i64) (.pair .str (.pair (.slice (.st yT)) .unit))
abbrev yR:Ty:= .pair (.int .i64) (.pair .str (.pair (.ref 2) .unit))
abbrev yH:Ty:= .st (.pair (.int .i64) (.pair (.slice (.st yC)) .unit))
abbrev yG:Ty:= .st (.pair (.int .i64) (.pair (.ref 0) .unit))
abbrev H0:=List (Option (List zqC))
abbrev H1:=List (Option (List zqN))
abbrev H2:=List (Option (List Gl))
abbrev H3:=List (Option (List Gl))
abbrev H4:=List (Option (List Int))
abbrev H5:=List (Option (List ((mJ)×Nat×Nat×Nat×Int×Int×Unit)))
abbrev H6:=List (Option (List (Option (List Int))))
abbrev H7:=List (Option (List Bool))
abbrev H8:=List (Option (List (Nat×ByteArray×Unit)))
abbrev H9:=List (Option (List mJ))
abbrev H10:=List (Option (List Nat))
abbrev hs (a0:H0)(a1:H1)(a2:H2)(a3:H3)(a4:H4)(a5:H5)(a6:H6)(a7:H7)(a8:H8)(a9:H9)(zV:H10):List aV:=[⟨42, .st yC,0,true,a0⟩,⟨42, .st yR,0,true,a1⟩,⟨44, .st yT,0,true,a2⟩,⟨58, .st yT,0,true,a3⟩,⟨3, .int .i64,0,true,a4⟩,⟨95, .st (.pair (.st (.pair (.int .i64) (.pair (.slice (.st yC)) .unit))) (.pair (.ref 6) (.pair (.ref 4) (.pair (.ref 7) yT)))),1,true,a5⟩,⟨26, .px (.int .i64),0,true,a6⟩,⟨4, .bool,0,true,a7⟩,⟨101, .st (.pair (.ref 4) (.pair .str .unit)),0,true,a8⟩,⟨24,yH,0,true,a9⟩,⟨26, .ref 4,0,true,zV⟩]
abbrev h0:List aV:=hs [] [] [] [] [] [] [] [] [] [] []
abbrev gl:List (Nat×AV):=[(1000000000, .pg [⟨.fn,(197:Nat)⟩,⟨.bool,false⟩]),(1000000001, .pg [⟨.fn,(199:Nat)⟩,⟨.bool,true⟩])]
abbrev aX (x:Int):AV:= .rv (.cv ⟨.int .i64,x⟩)
theorem e1 (v:Nat)(x:Bu T v):c6 T B lf v x=amF T B lf v x:=DB T B lf v x
theorem l1 (v i:Nat)(σ:AS):LL T B lf v i σ=LL1 T B lf v i σ:=aoK T B lf v i σ
abbrev ms (n:Nat)(a:List (Nat×AV))(b:List (Nat×BX))(h:List aV)(s:Nat):AS:=⟨⟨n,a,gl⟩,[],b,h,⟨.unit,()⟩,[],T.sites s⟩
theorem x1 {t0:Type}{r:Type}{f g:t0→r}(h:∀a0,f a0=g a0):g=f:=(funext fun a0=>h a0).symm
theorem x2 {t0:Type}{t1:Type}{r:Type}{f g:t0→t1→r}(h:∀a0 a1,f a0 a1=g a0 a1):g=f:=(funext fun a0=>funext fun a1=>h a0 a1).symm
theorem x3 {t0:Type}{t1:Type}{t2:Type}{r:Type}{f g:t0→t1→t2→r}(h:∀a0 a1 a2,f a0 a1 a2=g a0 a1 a2):g=f:=(funext fun a0=>funext fun a1=>funext fun a2=>h a0 a1 a2).symm
theorem x4 {t0:Type}{t1:Type}{t2:Type}{t3:Type}{r:Type}{f g:t0→t1→t2→t3→r}(h:∀a0 a1 a2 a3,f a0 a1 a2 a3=g a0 a1 a2 a3):g=f:=(funext fun a0=>funext fun a1=>funext fun a2=>funext fun a3=>h a0 a1 a2 a3).symm
theorem x5 {t0:Type}{t1:Type}{t2:Type}{t3:Type}{t4:Type}{r:Type}{f g:t0→t1→t2→t3→t4→r}(h:∀a0 a1 a2 a3 a4,f a0 a1 a2 a3 a4=g a0 a1 a2 a3 a4):g=f:=(funext fun a0=>funext fun a1=>funext fun a2=>funext fun a3=>funext fun a4=>h a0 a1 a2 a3 a4).symm
theorem x6 {t0:Type}{t1:Type}{t2:Type}{t3:Type}{t4:Type}{t5:Type}{r:Type}{f g:t0→t1→t2→t3→t4→t5→r}(h:∀a0 a1 a2 a3 a4 a5,f a0 a1 a2 a3 a4 a5=g a0 a1 a2 a3 a4 a5):g=f:=(funext fun a0=>funext fun a1=>funext fun a2=>funext fun a3=>funext fun a4=>funext fun a5=>h a0 a1 a2 a3 a4 a5).symm
theorem x7 {t0:Type}{t1:Type}{t2:Type}{t3:Type}{t4:Type}{t5:Type}{t6:Type}{r:Type}{f g:t0→t1→t2→t3→t4→t5→t6→r}(h:∀a0 a1 a2 a3 a4 a5 a6,f a0 a1 a2 a3 a4 a5 a6=g a0 a1 a2 a3 a4 a5 a6):g=f:=(funext fun a0=>funext fun a1=>funext fun a2=>funext fun a3=>funext fun a4=>funext fun a5=>funext fun a6=>h a0 a1 a2 a3 a4 a5 a6).symm
theorem x8 {t0:Type}{t1:Type}{t2:Type}{t3:Type}{t4:Type}{t5:Type}{t6:Type}{t7:Type}{r:Type}{f g:t0→t1→t2→t3→t4→t5→t6→t7→r}(h:∀a0 a1 a2 a3 a4 a5 a6 a7,f a0 a1 a2 a3 a4 a5 a6 a7=g a0 a1 a2 a3 a4 a5 a6 a7):g=f:=(funext fun a0=>funext fun a1=>funext fun a2=>funext fun a3=>funext fun a4=>funext fun a5=>funext fun a6=>funext fun a7=>h a0 a1 a2 a3 a4 a5 a6 a7).symm
theorem x9 {t0:Type}{t1:Type}{t2:Type}{t3:Type}{t4:Type}{t5:Type}{t6:Type}{t7:Type}{t8:Type}{r:Type}{f g:t0→t1→t2→t3→t4→t5→t6→t7→t8→r}(h:∀a0 a1 a2 a3 a4 a5 a6 a7 a8,f a0 a1 a2 a3 a4 a5 a6 a7 a8=g a0 a1 a2 a3 a4 a5 a6 a7 a8):g=f:=(funext fun a0=>funext fun a1=>funext fun a2=>funext fun a3=>funext fun a4=>funext fun a5=>funext fun a6=>funext fun a7=>funext fun a8=>h a0 a1 a2 a3 a4 a5 a6 a7 a8).symm
theorem x10 {t0:Type}{t1:Type}{t2:Type}{t3:Type}{t4:Type}{t5:Type}{t6:Type}{t7:Type}{t8:Type}{t9:Type}{r:Type}{f g:t0→t1→t2→t3→t4→t5→t6→t7→t8→t9→r}(h:∀a0 a1 a2 a3 a4 a5 a6 a7 a8 a9,f a0 a1 a2 a3 a4 a5 a6 a7 a8 a9=g a0 a1 a2 a3 a4 a5 a6 a7 a8 a9):g=f:=(funext fun a0=>funext fun a1=>funext fun a2=>funext fun a3=>funext fun a4=>funext fun a5=>funext fun a6=>funext fun a7=>funext fun a8=>funext fun a9=>h a0 a1 a2 a3 a4 a5 a6 a7 a8 a9).symm
theorem x11 {t0:Type}{t1:Type}{t2:Type}{t3:Type}{t4:Type}{t5:Type}{t6:Type}{t7:Type}{t8:Type}{t9:Type}{t10:Type}{r:Type}{f g:t0→t1→t2→t3→t4→t5→t6→t7→t8→t9→t10→r}(h:∀a0 a1 a2 a3 a4 a5 a6 a7 a8 a9 zV,f a0 a1 a2 a3 a4 a5 a6 a7 a8 a9 zV=g a0 a1 a2 a3 a4 a5 a6 a7 a8 a9 zV):g=f:=(funext fun a0=>funext fun a1=>funext fun a2=>funext fun a3=>funext fun a4=>funext fun a5=>funext fun a6=>funext fun a7=>funext fun a8=>funext fun a9=>funext fun zV=>h a0 a1 a2 a3 a4 a5 a6 a7 a8 a9 zV).symm
theorem x12 {t0:Type}{t1:Type}{t2:Type}{t3:Type}{t4:Type}{t5:Type}{t6:Type}{t7:Type}{t8:Type}{t9:Type}{t10:Type}{t11:Type}{r:Type}{f g:t0→t1→t2→t3→t4→t5→t6→t7→t8→t9→t10→t11→r}(h:∀a0 a1 a2 a3 a4 a5 a6 a7 a8 a9 zV DC,f a0 a1 a2 a3 a4 a5 a6 a7 a8 a9 zV DC=g a0 a1 a2 a3 a4 a5 a6 a7 a8 a9 zV DC):g=f:=(funext fun a0=>funext fun a1=>funext fun a2=>funext fun a3=>funext fun a4=>funext fun a5=>funext fun a6=>funext fun a7=>funext fun a8=>funext fun a9=>funext fun zV=>funext fun DC=>h a0 a1 a2 a3 a4 a5 a6 a7 a8 a9 zV DC).symm
theorem x13 {t0:Type}{t1:Type}{t2:Type}{t3:Type}{t4:Type}{t5:Type}{t6:Type}{t7:Type}{t8:Type}{t9:Type}{t10:Type}{t11:Type}{t12:Type}{r:Type}{f g:t0→t1→t2→t3→t4→t5→t6→t7→t8→t9→t10→t11→t12→r}(h:∀a0 a1 a2 a3 a4 a5 a6 a7 a8 a9 zV DC a12,f a0 a1 a2 a3 a4 a5 a6 a7 a8 a9 zV DC a12=g a0 a1 a2 a3 a4 a5 a6 a7 a8 a9 zV DC a12):g=f:=(funext fun a0=>funext fun a1=>funext fun a2=>funext fun a3=>funext fun a4=>funext fun a5=>funext fun a6=>funext fun a7=>funext fun a8=>funext fun a9=>funext fun zV=>funext fun DC=>funext fun a12=>h a0 a1 a2 a3 a4 a5 a6 a7 a8 a9 zV DC a12).symm
theorem x14 {t0:Type}{t1:Type}{t2:Type}{t3:Type}{t4:Type}{t5:Type}{t6:Type}{t7:Type}{t8:Type}{t9:Type}{t10:Type}{t11:Type}{t12:Type}{t13:Type}{r:Type}{f g:t0→t1→t2→t3→t4→t5→t6→t7→t8→t9→t10→t11→t12→t13→r}(h:∀a0 a1 a2 a3 a4 a5 a6 a7 a8 a9 zV DC a12 KA,f a0 a1 a2 a3 a4 a5 a6 a7 a8 a9 zV DC a12 KA=g a0 a1 a2 a3 a4 a5 a6 a7 a8 a9 zV DC a12 KA):g=f:=(funext fun a0=>funext fun a1=>funext fun a2=>funext fun a3=>funext fun a4=>funext fun a5=>funext fun a6=>funext fun a7=>funext fun a8=>funext fun a9=>funext fun zV=>funext fun DC=>funext fun a12=>funext fun KA=>h a0 a1 a2 a3 a4 a5 a6 a7 a8 a9 zV DC a12 KA).symm
theorem x15 {t0:Type}{t1:Type}{t2:Type}{t3:Type}{t4:Type}{t5:Type}{t6:Type}{t7:Type}{t8:Type}{t9:Type}{t10:Type}{t11:Type}{t12:Type}{t13:Type}{t14:Type}{r:Type}{f g:t0→t1→t2→t3→t4→t5→t6→t7→t8→t9→t10→t11→t12→t13→t14→r}(h:∀a0 a1 a2 a3 a4 a5 a6 a7 a8 a9 zV DC a12 KA Od,f a0 a1 a2 a3 a4 a5 a6 a7 a8 a9 zV DC a12 KA Od=g a0 a1 a2 a3 a4 a5 a6 a7 a8 a9 zV DC a12 KA Od):g=f:=(funext fun a0=>funext fun a1=>funext fun a2=>funext fun a3=>funext fun a4=>funext fun a5=>funext fun a6=>funext fun a7=>funext fun a8=>funext fun a9=>funext fun zV=>funext fun DC=>funext fun a12=>funext fun KA=>funext fun Od=>h a0 a1 a2 a3 a4 a5 a6 a7 a8 a9 zV DC a12 KA Od).symm
theorem x16 {t0:Type}{t1:Type}{t2:Type}{t3:Type}{t4:Type}{t5:Type}{t6:Type}{t7:Type}{t8:Type}{t9:Type}{t10:Type}{t11:Type}{t12:Type}{t13:Type}{t14:Type}{t15:Type}{r:Type}{f g:t0→t1→t2→t3→t4→t5→t6→t7→t8→t9→t10→t11→t12→t13→t14→t15→r}(h:∀a0 a1 a2 a3 a4 a5 a6 a7 a8 a9 zV DC a12 KA Od Sb,f a0 a1 a2 a3 a4 a5 a6 a7 a8 a9 zV DC a12 KA Od Sb=g a0 a1 a2 a3 a4 a5 a6 a7 a8 a9 zV DC a12 KA Od Sb):g=f:=(funext fun a0=>funext fun a1=>funext fun a2=>funext fun a3=>funext fun a4=>funext fun a5=>funext fun a6=>funext fun a7=>funext fun a8=>funext fun a9=>funext fun zV=>funext fun DC=>funext fun a12=>funext fun KA=>funext fun Od=>funext fun Sb=>h a0 a1 a2 a3 a4 a5 a6 a7 a8 a9 zV DC a12 KA Od Sb).symm
theorem x17 {t0:Type}{t1:Type}{t2:Type}{t3:Type}{t4:Type}{t5:Type}{t6:Type}{t7:Type}{t8:Type}{t9:Type}{t10:Type}{t11:Type}{t12:Type}{t13:Type}{t14:Type}{t15:Type}{t16:Type}{r:Type}{f g:t0→t1→t2→t3→t4→t5→t6→t7→t8→t9→t10→t11→t12→t13→t14→t15→t16→r}(h:∀a0 a1 a2 a3 a4 a5 a6 a7 a8 a9 zV DC a12 KA Od Sb XM,f a0 a1 a2 a3 a4 a5 a6 a7 a8 a9 zV DC a12 KA Od Sb XM=g a0 a1 a2 a3 a4 a5 a6 a7 a8 a9 zV DC a12 KA Od Sb XM):g=f:=(funext fun a0=>funext fun a1=>funext fun a2=>funext fun a3=>funext fun a4=>funext fun a5=>funext fun a6=>funext fun a7=>funext fun a8=>funext fun a9=>funext fun zV=>funext fun DC=>funext fun a12=>funext fun KA=>funext fun Od=>funext fun Sb=>funext fun XM=>h a0 a1 a2 a3 a4 a5 a6 a7 a8 a9 zV DC a12 KA Od Sb XM).symm
theorem x18 {t0:Type}{t1:Type}{t2:Type}{t3:Type}{t4:Type}{t5:Type}{t6:Type}{t7:Type}{t8:Type}{t9:Type}{t10:Type}{t11:Type}{t12:Type}{t13:Type}{t14:Type}{t15:Type}{t16:Type}{t17:Type}{r:Type}{f g:t0→t1→t2→t3→t4→t5→t6→t7→t8→t9→t10→t11→t12→t13→t14→t15→t16→t17→r}(h:∀a0 a1 a2 a3 a4 a5 a6 a7 a8 a9 zV DC a12 KA Od Sb XM a17,f a0 a1 a2 a3 a4 a5 a6 a7 a8 a9 zV DC a12 KA Od Sb XM a17=g a0 a1 a2 a3 a4 a5 a6 a7 a8 a9 zV DC a12 KA Od Sb XM a17):g=f:=(funext fun a0=>funext fun a1=>funext fun a2=>funext fun a3=>funext fun a4=>funext fun a5=>funext fun a6=>funext fun a7=>funext fun a8=>funext fun a9=>funext fun zV=>funext fun DC=>funext fun a12=>funext fun KA=>funext fun Od=>funext fun Sb=>funext fun XM=>funext fun a17=>h a0 a1 a2 a3 a4 a5 a6 a7 a8 a9 zV DC a12 KA Od Sb XM a17).symm
theorem x19 {t0:Type}{t1:Type}{t2:Type}{t3:Type}{t4:Type}{t5:Type}{t6:Type}{t7:Type}{t8:Type}{t9:Type}{t10:Type}{t11:Type}{t12:Type}{t13:Type}{t14:Type}{t15:Type}{t16:Type}{t17:Type}{t18:Type}{r:Type}{f g:t0→t1→t2→t3→t4→t5→t6→t7→t8→t9→t10→t11→t12→t13→t14→t15→t16→t17→t18→r}(h:∀a0 a1 a2 a3 a4 a5 a6 a7 a8 a9 zV DC a12 KA Od Sb XM a17 a18,f a0 a1 a2 a3 a4 a5 a6 a7 a8 a9 zV DC a12 KA Od Sb XM a17 a18=g a0 a1 a2 a3 a4 a5 a6 a7 a8 a9 zV DC a12 KA Od Sb XM a17 a18):g=f:=(funext fun a0=>funext fun a1=>funext fun a2=>funext fun a3=>funext fun a4=>funext fun a5=>funext fun a6=>funext fun a7=>funext fun a8=>funext fun a9=>funext fun zV=>funext fun DC=>funext fun a12=>funext fun KA=>funext fun Od=>funext fun Sb=>funext fun XM=>funext fun a17=>funext fun a18=>h a0 a1 a2 a3 a4 a5 a6 a7 a8 a9 zV DC a12 KA Od Sb XM a17 a18).symm
theorem x20 {t0:Type}{t1:Type}{t2:Type}{t3:Type}{t4:Type}{t5:Type}{t6:Type}{t7:Type}{t8:Type}{t9:Type}{t10:Type}{t11:Type}{t12:Type}{t13:Type}{t14:Type}{t15:Type}{t16:Type}{t17:Type}{t18:Type}{t19:Type}{r:Type}{f g:t0→t1→t2→t3→t4→t5→t6→t7→t8→t9→t10→t11→t12→t13→t14→t15→t16→t17→t18→t19→r}(h:∀a0 a1 a2 a3 a4 a5 a6 a7 a8 a9 zV DC a12 KA Od Sb XM a17 a18 a19,f a0 a1 a2 a3 a4 a5 a6 a7 a8 a9 zV DC a12 KA Od Sb XM a17 a18 a19=g a0 a1 a2 a3 a4 a5 a6 a7 a8 a9 zV DC a12 KA Od Sb XM a17 a18 a19):g=f:=(funext fun a0=>funext fun a1=>funext fun a2=>funext fun a3=>funext fun a4=>funext fun a5=>funext fun a6=>funext fun a7=>funext fun a8=>funext fun a9=>funext fun zV=>funext fun DC=>funext fun a12=>funext fun KA=>funext fun Od=>funext fun Sb=>funext fun XM=>funext fun a17=>funext fun a18=>funext fun a19=>h a0 a1 a2 a3 a4 a5 a6 a7 a8 a9 zV DC a12 KA Od Sb XM a17 a18 a19).symm
abbrev af {α:Type}(_:α):Type:=α
def il {α:Type}(f:α)(b:Nat→α)(n:Nat):α:=Nat.rec f (fun k _=>b k) n
def w7 {α:Type}(f:α)(b:Nat→α→α)(n:Nat):α:=Nat.rec f (fun k x=>b k x) n
theorem bq {α:Type}{f:α}{b:Nat→α}(h:∀w,b w=f):∀w,il f b w=f
 |0=>rfl
 |w+1=>h w
theorem mkLe {α:Type}{f:α}{b:Nat→α→α}(h:∀w,b w f=f):∀w,w7 f b w=f
 |0=>rfl
 |w+1=>by show b w (w7 f b w)=f;rw[mkLe h w];exact h w
def qC (raw:(List (List Int))×(List Int)×Int×(List Int)×Unit):Option (Bool):=c6 T B lf 10 raw
def cS (e:Int)(f:Int)(g:Int)(GU:Int)(t:dk)(t2:Int)(t3:Int)(v:Int)(v2:Int)(w:Int)(w2:Int)(u:Int)(u2:Int):Option (Bool):=
 LL T B lf 10 0 (ms 89 [(40,aX t3),(39,aX t2),(38, .rv (.cv ⟨.slice (.st yT),t⟩)),(13,aX GU),(12,aX g),(11, .box 11 0),(9,aX f),(8, .box 8 0),(6,aX e),(5, .box 5 0)] [(5, .cells [⟨.int .i64,v⟩,⟨.int .i64,v2⟩]),(8, .cells [⟨.int .i64,w⟩,⟨.int .i64,w2⟩]),(11, .cells [⟨.int .i64,u⟩,⟨.int .i64,u2⟩])] h0 10)
def jS:Option (Bool):=c6 T B lf 13 ()
def rk (x:(List (List Int))×(List Int)×Int×(List Int)×Unit)(most:Int):Option mJ:=c6 T B lf 14 (x,most)
def eF (n:Int)(x:List (List Int))(x2:List Int)(x3:Int)(x4:List Int)(t:Int)(t2:Nat)(c:Int)(c2:xP):Option mJ:=
 LL T B lf 14 0 (ms 134 [(9,aX n),(7, .box 7 0),(4, .box 4 0),(2, .box 2 0)] [(2, .cells [⟨.slice (.slice (.int .i64)),x⟩,⟨.slice (.int .i64),x2⟩,⟨.int .i64,x3⟩,⟨.slice (.int .i64),x4⟩]),(4, .cells [⟨.int .i64,t⟩,⟨.ref 0,t2⟩]),(7, .cells [⟨.int .i64,c⟩,⟨.slice (.st yC),c2⟩])] h0 14)
def fX (n:Int)(j:Int)(k:Int)(i:Int)(x:List (List Int))(x2:List Int)(x3:Int)(x4:List Int)(t:Int)(t2:Nat)(c:Int)(c2:xP):Option mJ:=
 LL T B lf 14 1 (ms 134 [(12,aX i),(11,aX k),(10,aX j),(9,aX n),(7, .box 7 0),(4, .box 4 0),(2, .box 2 0)] [(2, .cells [⟨.slice (.slice (.int .i64)),x⟩,⟨.slice (.int .i64),x2⟩,⟨.int .i64,x3⟩,⟨.slice (.int .i64),x4⟩]),(4, .cells [⟨.int .i64,t⟩,⟨.ref 0,t2⟩]),(7, .cells [⟨.int .i64,c⟩,⟨.slice (.st yC),c2⟩])] h0 14)
def ql (c:mJ)(lC:H0):Option ((Int×Nat×Unit)×H0):=c6 T B lf 15 (c,lC)
def fw (i:Int)(c:Int)(c2:xP)(t:Int)(t2:Nat)(out:Int)(ak:Nat)(lC:H0):Option ((Int×Nat×Unit)×H0):=
 LL T B lf 15 0 (ms 33 [(4,aX i),(3, .box 3 0),(2, .box 2 0),(1, .box 1 0)] [(1, .cells [⟨.int .i64,c⟩,⟨.slice (.st yC),c2⟩]),(2, .cells [⟨.int .i64,t⟩,⟨.ref 0,t2⟩]),(3, .cells [⟨.int .i64,out⟩,⟨.ref 0,ak⟩])] (hs lC [] [] [] [] [] [] [] [] [] []) 15)
def qD (c:mJ):Option (mJ×Int):=c6 T B lf 18 c
def jG (last:Int)(t:Int)(t2:Int)(c:Int)(c2:xP)(t3:Int)(t4:Nat)(out:Int)(ak:Nat)(hp1:H1):Option (mJ×Int):=
 LL T B lf 18 0 (ms 107 [(35,aX t2),(34,aX t),(6, .box 6 0),(5,aX last),(2, .box 2 0),(1, .box 1 0)] [(1, .cells [⟨.int .i64,c⟩,⟨.slice (.st yC),c2⟩]),(2, .cells [⟨.int .i64,t3⟩,⟨.ref 0,t4⟩]),(6, .cells [⟨.int .i64,out⟩,⟨.ref 1,ak⟩])] (hs [] hp1 [] [] [] [] [] [] [] [] []) 18)
def im (last:Int)(k:Int)(c:Int)(c2:xP)(t:Int)(t2:Nat)(out:Int)(ak:Nat)(hp1:H1):Option (mJ×Int):=
 LL T B lf 18 1 (ms 107 [(11,aX k),(6, .box 6 0),(5,aX last),(2, .box 2 0),(1, .box 1 0)] [(1, .cells [⟨.int .i64,c⟩,⟨.slice (.st yC),c2⟩]),(2, .cells [⟨.int .i64,t⟩,⟨.ref 0,t2⟩]),(6, .cells [⟨.int .i64,out⟩,⟨.ref 1,ak⟩])] (hs [] hp1 [] [] [] [] [] [] [] [] []) 18)
def sO (last:Int)(k:Int)(t:dk)(t2:Int)(t3:Int)(c:Int)(c2:xP)(t4:Int)(t5:Nat)(out:Int)(ak:Nat)(hp1:H1):Option (mJ×Int):=
 LL T B lf 18 2 (ms 107 [(80,aX t3),(79,aX t2),(78, .rv (.cv ⟨.slice (.st yT),t⟩)),(11,aX k),(6, .box 6 0),(5,aX last),(2, .box 2 0),(1, .box 1 0)] [(1, .cells [⟨.int .i64,c⟩,⟨.slice (.st yC),c2⟩]),(2, .cells [⟨.int .i64,t4⟩,⟨.ref 0,t5⟩]),(6, .cells [⟨.int .i64,out⟩,⟨.ref 1,ak⟩])] (hs [] hp1 [] [] [] [] [] [] [] [] []) 18)
def fa (last:Int)(k:Int)(t:dk)(t2:Int)(t3:Int)(c:Int)(c2:xP)(t4:Int)(t5:Nat)(out:Int)(ak:Nat)(hp1:H1)(hp2:H2):Option (mJ×Int):=
 LL T B lf 18 2 (ms 107 [(80,aX t3),(79,aX t2),(78, .rv (.cv ⟨.slice (.st yT),t⟩)),(11,aX k),(6, .box 6 0),(5,aX last),(2, .box 2 0),(1, .box 1 0)] [(1, .cells [⟨.int .i64,c⟩,⟨.slice (.st yC),c2⟩]),(2, .cells [⟨.int .i64,t4⟩,⟨.ref 0,t5⟩]),(6, .cells [⟨.int .i64,out⟩,⟨.ref 1,ak⟩])] (hs [] hp1 hp2 [] [] [] [] [] [] [] []) 18)
def iJ (last:Int)(k:Int)(c:Int)(c2:xP)(t:Int)(t2:Nat)(out:Int)(ak:Nat)(hp1:H1)(hp2:H2):Option (mJ×Int):=
 LL T B lf 18 1 (ms 107 [(11,aX k),(6, .box 6 0),(5,aX last),(2, .box 2 0),(1, .box 1 0)] [(1, .cells [⟨.int .i64,c⟩,⟨.slice (.st yC),c2⟩]),(2, .cells [⟨.int .i64,t⟩,⟨.ref 0,t2⟩]),(6, .cells [⟨.int .i64,out⟩,⟨.ref 1,ak⟩])] (hs [] hp1 hp2 [] [] [] [] [] [] [] []) 18)
def fO (c:mJ):Option (dk×Gl×Int):=c6 T B lf 20 c
def iK (a:dk)(b:dk):Option (Bool):=c6 T B lf 23 (a,b)
def cU (a:dk)(b:dk)(i:Int):Option (Bool):=
 LL T B lf 23 0 (ms 26 [(5,aX i),(1, .rv (.cv ⟨.slice (.st yT),b⟩)),(0, .rv (.cv ⟨.slice (.st yT),a⟩))] [] h0 23)
def lK (c:mJ):Option (dk×Gl×Int):=c6 T B lf 24 c
def fx (c:mJ):Option (dk×Gl×Int):=c6 T B lf 26 c
def b4 (l:Nat)(last:Int)(t:Nat)(t2:Int)(t3:Int)(t4:Int)(t5:Int)(w:Int)(w2:Int)(bh:H2):Option (dk×Gl×Int):=
 LL T B lf 26 0 (ms 66 [(33,aX t3),(32,aX t2),(31, .rv (.cv ⟨.ref 3,t⟩)),(9,aX last),(8, .box 8 0),(7, .rv (.cv ⟨.ref 3,l⟩)),(3, .box 3 0)] [(3, .cells [⟨.int .i64,t4⟩,⟨.int .i64,t5⟩]),(8, .cells [⟨.int .i64,w⟩,⟨.int .i64,w2⟩])] (hs [] [] [] bh [] [] [] [] [] [] []) 26)
def kd:Option mJ:=c6 T B lf 28 ()
def gP (a:dk)(b:dk):Option (Bool):=c6 T B lf 30 (a,b)
def cD (a:dk)(b:dk)(i:Int):Option (Bool):=
 LL T B lf 30 0 (ms 26 [(5,aX i),(1, .rv (.cv ⟨.slice (.st yT),b⟩)),(0, .rv (.cv ⟨.slice (.st yT),a⟩))] [] h0 30)
def vt (l:List Int):Option dk:=c6 T B lf 31 l
def jg (l:List Int)(i:Int)(out:dk):Option dk:=
 LL T B lf 31 0 ⟨⟨26,[(4,aX i),(3, .rv (.own 3)),(0, .rv (.cv ⟨.slice (.int .i64),l⟩))],gl⟩,[(3,⟨44, .st yT,out⟩)],[],h0,⟨.unit,()⟩,[],T.sites 31⟩
def rl (l:List (List Int))(values:List Int)(most:Int)(PT:Int)(n:Int):Option (List ((List Int)×ByteArray×Unit)):=c6 T B lf 32 (l,values,most,PT,n)
def fY (values:List Int)(c:List (List Int))(i:Int)(UP:List ByteArray):Option (List ((List Int)×ByteArray×Unit)):=
 LL T B lf 32 0 ⟨⟨57,[(13,aX i),(12, .rv (.own 12)),(11, .rv (.cv ⟨.slice (.slice (.int .i64)),c⟩)),(1, .rv (.cv ⟨.slice (.int .i64),values⟩))],gl⟩,[(12,⟨39, .str,UP⟩)],[],h0,⟨.unit,()⟩,[],T.sites 32⟩
def jH (f:List ((List Int)×ByteArray×Unit))(p:Int):Option (mJ×Int):=c6 T B lf 33 (f,p)
def jT (f:List ((List Int)×ByteArray×Unit))(p:Int)(j:Int)(t:Int)(t2:Nat)(out:Int)(ak:Nat):Option (mJ×Int):=
 LL T B lf 33 0 (ms 93 [(8,aX j),(7, .box 7 0),(4, .box 4 0),(1,aX p),(0, .rv (.cv ⟨.slice (.st (.pair (.slice (.int .i64)) (.pair (.str) (.unit)))),f⟩))] [(4, .cells [⟨.int .i64,t⟩,⟨.ref 0,t2⟩]),(7, .cells [⟨.int .i64,out⟩,⟨.ref 0,ak⟩])] h0 33)
def gX (f:List ((List Int)×ByteArray×Unit))(p:Int)(j:Int)(v:Nat)(cw:List (List Int))(k:Int)(t:Int)(t2:Nat)(out:Int)(ak:Nat)(aF:H4):Option (mJ×Int):=
 LL T B lf 33 1 (ms 93 [(11,aX k),(10, .rv (.cv ⟨.slice (.slice (.int .i64)),cw⟩)),(9, .rv (.cv ⟨.ref 4,v⟩)),(8,aX j),(7, .box 7 0),(4, .box 4 0),(1,aX p),(0, .rv (.cv ⟨.slice (.st (.pair (.slice (.int .i64)) (.pair (.str) (.unit)))),f⟩))] [(4, .cells [⟨.int .i64,t⟩,⟨.ref 0,t2⟩]),(7, .cells [⟨.int .i64,out⟩,⟨.ref 0,ak⟩])] (hs [] [] [] [] aF [] [] [] [] [] []) 33)
def gY (f:List ((List Int)×ByteArray×Unit))(p:Int)(j:Int)(v:Nat)(cw:List (List Int))(k:Int)(i:Int)(t:Int)(t2:Nat)(out:Int)(ak:Nat)(aF:H4):Option (mJ×Int):=
 LL T B lf 33 2 (ms 93 [(12,aX i),(11,aX k),(10, .rv (.cv ⟨.slice (.slice (.int .i64)),cw⟩)),(9, .rv (.cv ⟨.ref 4,v⟩)),(8,aX j),(7, .box 7 0),(4, .box 4 0),(1,aX p),(0, .rv (.cv ⟨.slice (.st (.pair (.slice (.int .i64)) (.pair (.str) (.unit)))),f⟩))] [(4, .cells [⟨.int .i64,t⟩,⟨.ref 0,t2⟩]),(7, .cells [⟨.int .i64,out⟩,⟨.ref 0,ak⟩])] (hs [] [] [] [] aF [] [] [] [] [] []) 33)
def cY (f:List ((List Int)×ByteArray×Unit))(p:Int)(j:Int)(t:Int)(t2:Nat)(out:Int)(ak:Nat)(lC:H0)(aF:H4):Option (mJ×Int):=
 LL T B lf 33 0 (ms 93 [(8,aX j),(7, .box 7 0),(4, .box 4 0),(1,aX p),(0, .rv (.cv ⟨.slice (.st (.pair (.slice (.int .i64)) (.pair (.str) (.unit)))),f⟩))] [(4, .cells [⟨.int .i64,t⟩,⟨.ref 0,t2⟩]),(7, .cells [⟨.int .i64,out⟩,⟨.ref 0,ak⟩])] (hs lC [] [] [] aF [] [] [] [] [] []) 33)
def dH (f:List ((List Int)×ByteArray×Unit))(p:Int)(j:Int)(v:Nat)(cw:List (List Int))(k:Int)(t:Int)(t2:Nat)(out:Int)(ak:Nat)(lC:H0)(aF:H4):Option (mJ×Int):=
 LL T B lf 33 1 (ms 93 [(11,aX k),(10, .rv (.cv ⟨.slice (.slice (.int .i64)),cw⟩)),(9, .rv (.cv ⟨.ref 4,v⟩)),(8,aX j),(7, .box 7 0),(4, .box 4 0),(1,aX p),(0, .rv (.cv ⟨.slice (.st (.pair (.slice (.int .i64)) (.pair (.str) (.unit)))),f⟩))] [(4, .cells [⟨.int .i64,t⟩,⟨.ref 0,t2⟩]),(7, .cells [⟨.int .i64,out⟩,⟨.ref 0,ak⟩])] (hs lC [] [] [] aF [] [] [] [] [] []) 33)
def eK (f:List ((List Int)×ByteArray×Unit))(p:Int)(j:Int)(v:Nat)(cw:List (List Int))(k:Int)(i:Int)(t:Int)(t2:Nat)(out:Int)(ak:Nat)(lC:H0)(aF:H4):Option (mJ×Int):=
 LL T B lf 33 2 (ms 93 [(12,aX i),(11,aX k),(10, .rv (.cv ⟨.slice (.slice (.int .i64)),cw⟩)),(9, .rv (.cv ⟨.ref 4,v⟩)),(8,aX j),(7, .box 7 0),(4, .box 4 0),(1,aX p),(0, .rv (.cv ⟨.slice (.st (.pair (.slice (.int .i64)) (.pair (.str) (.unit)))),f⟩))] [(4, .cells [⟨.int .i64,t⟩,⟨.ref 0,t2⟩]),(7, .cells [⟨.int .i64,out⟩,⟨.ref 0,ak⟩])] (hs lC [] [] [] aF [] [] [] [] [] []) 33)
def rm (n:Int):Option (Int):=c6 T B lf 34 n
def tk (c:mJ)(i:Int)(j:Int)(k:Int)(m:Int):Option mJ:=c6 T B lf 35 (c,i,j,k,m)
def gZ (i:Int)(j:Int)(k:Int)(m:Int)(inv:Int)(v:Nat)(a:List Int)(b:List Int)(n:Int)(c:Int)(c2:xP)(t:Int)(t2:Nat)(out:Int)(ak:Nat)(lC:H0)(aF:H4):Option mJ:=
 LL T B lf 35 0 (ms 149 [(16,aX n),(15, .rv (.cv ⟨.slice (.int .i64),b⟩)),(14, .rv (.cv ⟨.slice (.int .i64),a⟩)),(13, .rv (.cv ⟨.ref 4,v⟩)),(12,aX inv),(11, .box 11 0),(10, .box 10 0),(5, .box 5 0),(4,aX m),(3,aX k),(2,aX j),(1,aX i)] [(5, .cells [⟨.int .i64,c⟩,⟨.slice (.st yC),c2⟩]),(10, .cells [⟨.int .i64,t⟩,⟨.ref 0,t2⟩]),(11, .cells [⟨.int .i64,out⟩,⟨.ref 0,ak⟩])] (hs lC [] [] [] aF [] [] [] [] [] []) 35)
def hU (i:Int)(j:Int)(m:Int)(inv:Int)(n:Int)(c:Int)(c2:xP)(t:Int)(t2:Nat)(out:Int)(ak:Nat)(lC:H0)(aF:H4):Option mJ:=
 LL T B lf 35 1 (ms 149 [(17,aX n),(12,aX inv),(11, .box 11 0),(10, .box 10 0),(5, .box 5 0),(4,aX m),(2,aX j),(1,aX i)] [(5, .cells [⟨.int .i64,c⟩,⟨.slice (.st yC),c2⟩]),(10, .cells [⟨.int .i64,t⟩,⟨.ref 0,t2⟩]),(11, .cells [⟨.int .i64,out⟩,⟨.ref 0,ak⟩])] (hs lC [] [] [] aF [] [] [] [] [] []) 35)
def ia (p:Int):Option (Bool):=c6 T B lf 36 p
def eG (p:Int)(k:Int):Option (Bool):=
 LL T B lf 36 0 (ms 23 [(3,aX k),(0,aX p)] [] h0 36)
def rq (x:dk)(n:Int):Option (List Int):=c6 T B lf 38 (x,n)
def fZ (x:dk)(i:Int)(out:List Int):Option (List Int):=
 LL T B lf 38 0 ⟨⟨28,[(6,aX i),(5, .rv (.own 5)),(0, .rv (.cv ⟨.slice (.st yT),x⟩))],gl⟩,[(5,⟨3, .int .i64,out⟩)],[],h0,⟨.unit,()⟩,[],T.sites 38⟩
def jI (c:mJ):Option (Int):=c6 T B lf 41 c
def dO (t:xP)(t2:Int)(t3:Int)(c:Int)(c2:xP)(last:Bool)(Wq:List Int)(Wr:Bool)(Ws:List Int):Option (Int):=
 LL T B lf 41 0 (ms 81 [(20,aX t3),(19,aX t2),(18, .rv (.cv ⟨.slice (.st yC),t⟩)),(3, .box 3 0),(1, .box 1 0)] [(1, .cells [⟨.int .i64,c⟩,⟨.slice (.st yC),c2⟩]),(3, .cells [⟨.bool,last⟩,⟨.slice (.int .u32),Wq⟩,⟨.bool,Wr⟩,⟨.slice (.int .u32),Ws⟩])] h0 41)
def gr (a:ByteArray):Option (((Bool×(List Int)×Unit)×(Bool×(List Int)×Unit)×Unit)×Bool):=c6 T B lf 42 a
def pj (a:(Bool×(List Int)×Unit)×(Bool×(List Int)×Unit)×Unit):Option ((Bool×(List Int)×Unit)×(Bool×(List Int)×Unit)×Unit):=c6 T B lf 43 a
def nc (a:(Bool×(List Int)×Unit)×(Bool×(List Int)×Unit)×Unit):Option (ByteArray):=c6 T B lf 44 a
def slices_SortFunc (x:Nat)(bh:H2):Option ((Unit)×H2):=c6 T B lf 50 ((x,()),bh)
def ry (l:List (List Int)):Option (List (List Int)):=c6 T B lf 53 l
def ga (l:List (List Int))(i:Int)(out:List (List Int)):Option (List (List Int)):=
 LL T B lf 53 0 ⟨⟨21,[(4,aX i),(3, .rv (.own 3)),(0, .rv (.cv ⟨.slice (.slice (.int .i64)),l⟩))],gl⟩,[(3,⟨26, .slice (.int .i64),out⟩)],[],h0,⟨.unit,()⟩,[],T.sites 53⟩
def rz (l:List (List Int))(most:Int)(PT:Int)(n:Int):Option (List (List Int)):=c6 T B lf 54 (l,most,PT,n)
def gd (l:List (List Int))(most:Int)(PT:Int)(n:Int)(i:Int)(QZ:List (List Int)):Option (List (List Int)):=
 LL T B lf 54 0 ⟨⟨49,[(10,aX i),(9, .rv (.own 9)),(3,aX n),(2,aX PT),(1,aX most),(0, .rv (.cv ⟨.slice (.slice (.int .i64)),l⟩))],gl⟩,[(9,⟨26, .slice (.int .i64),QZ⟩)],[],h0,⟨.unit,()⟩,[],T.sites 54⟩
def eH (t:List (List Int))(t2:Int)(t3:Int)(out:List (List Int)):Option (List (List Int)):=
 LL T B lf 54 1 ⟨⟨49,[(39,aX t3),(38,aX t2),(37, .rv (.cv ⟨.slice (.slice (.int .i64)),t⟩)),(11, .rv (.own 11))],gl⟩,[(11,⟨99, .slice (.int .i64),out⟩)],[],h0,⟨.unit,()⟩,[],T.sites 54⟩
def rA (n:Int):Option (ByteArray):=c6 T B lf 55 n
def yy (l:List (List Int))(values:List ByteArray):Option ((List ((List Int)×ByteArray×Unit))×Int):=c6 T B lf 56 (l,values)
def jU (l:List (List Int))(values:List ByteArray)(i:Int):Option ((List ((List Int)×ByteArray×Unit))×Int):=
 LL T B lf 56 0 (ms 83 [(7,aX i),(1, .rv (.cv ⟨.slice (.str),values⟩)),(0, .rv (.cv ⟨.slice (.slice (.int .i64)),l⟩))] [] h0 56)
def ib (l:List (List Int))(values:List ByteArray)(i:Int)(out:List ((List Int)×ByteArray×Unit)):Option ((List ((List Int)×ByteArray×Unit))×Int):=
 LL T B lf 56 1 ⟨⟨83,[(9,aX i),(8, .rv (.own 8)),(1, .rv (.cv ⟨.slice (.str),values⟩)),(0, .rv (.cv ⟨.slice (.slice (.int .i64)),l⟩))],gl⟩,[(8,⟨101, .st (.pair (.slice (.int .i64)) (.pair (.str) (.unit))),out⟩)],[],h0,⟨.unit,()⟩,[],T.sites 56⟩
def jV (l:List (List Int))(values:List ByteArray)(i:Int)(UP:ByteArray)(k:Int)(out:List ((List Int)×ByteArray×Unit)):Option ((List ((List Int)×ByteArray×Unit))×Int):=
 LL T B lf 56 2 ⟨⟨83,[(11,aX k),(10, .rv (.cv ⟨.str,UP⟩)),(9,aX i),(8, .rv (.own 8)),(1, .rv (.cv ⟨.slice (.str),values⟩)),(0, .rv (.cv ⟨.slice (.slice (.int .i64)),l⟩))],gl⟩,[(8,⟨101, .st (.pair (.slice (.int .i64)) (.pair (.str) (.unit))),out⟩)],[],h0,⟨.unit,()⟩,[],T.sites 56⟩
def jW (f:List ((List Int)×ByteArray×Unit)):Option (Int):=c6 T B lf 57 f
def cM (f:List ((List Int)×ByteArray×Unit))(i:Int):Option (Int):=
 LL T B lf 57 0 (ms 59 [(3,aX i),(0, .rv (.cv ⟨.slice (.st (.pair (.slice (.int .i64)) (.pair (.str) (.unit)))),f⟩))] [] h0 57)
def dr (f:List ((List Int)×ByteArray×Unit))(i:Int)(cw:List (List Int))(k:Int):Option (Int):=
 LL T B lf 57 1 (ms 59 [(6,aX k),(5, .rv (.cv ⟨.slice (.slice (.int .i64)),cw⟩)),(3,aX i),(0, .rv (.cv ⟨.slice (.st (.pair (.slice (.int .i64)) (.pair (.str) (.unit)))),f⟩))] [] h0 57)
def bK (s:List Int):Option (List (List Int)):=c6 T B lf 58 s
def c7 (s:List Int)(i:Int)(out:List (List Int)):Option (List (List Int)):=
 LL T B lf 58 0 ⟨⟨23,[(4,aX i),(3, .rv (.own 3)),(0, .rv (.cv ⟨.slice (.int .i64),s⟩))],gl⟩,[(3,⟨26, .slice (.int .i64),out⟩)],[],h0,⟨.unit,()⟩,[],T.sites 58⟩
def aY (a:List Int)(b:List Int):Option (Int):=c6 T B lf 59 (a,b)
def eL (a:List Int)(b:List Int)(i:Int):Option (Int):=
 LL T B lf 59 0 (ms 40 [(5,aX i),(1, .rv (.cv ⟨.slice (.int .i64),b⟩)),(0, .rv (.cv ⟨.slice (.int .i64),a⟩))] [] h0 59)
def nT (p:Int)(a:Int):Option (Int):=c6 T B lf 60 (p,a)
def eT (p:Int)(a:Int)(b:Int):Option (Int):=
 LL T B lf 60 0 (ms 18 [(5,aX b),(1,aX a),(0,aX p)] [] h0 60)
def fy (a:ByteArray):Option (Bool):=c6 T B lf 61 a
def bO (a:ByteArray)(b:ByteArray):Option (Int):=c6 T B lf 64 (a,b)
def cV (a:ByteArray):Option (ByteArray×ByteArray×Bool):=c6 T B lf 65 a
def du (a:ByteArray)(i:Int):Option (ByteArray×ByteArray×Bool):=
 LL T B lf 65 0 (ms 24 [(5,aX i),(0, .rv (.cv ⟨.str,a⟩))] [] h0 65)
def dv (a:ByteArray):Option (ByteArray):=c6 T B lf 66 a
def mo (p:Int):Option (Bool):=c6 T B lf 67 p
def jJ (p:Int)(t:Int):Option (Bool):=
 LL T B lf 67 0 (ms 27 [(4,aX t),(0,aX p)] [] h0 67)
def uw (a:ByteArray):Option (Bool):=c6 T B lf 68 a
def lL (p:Int)(c:dk):Option (Int):=c6 T B lf 69 (p,c)
def gu (p:Int)(c:dk)(t:dk)(t2:Int)(t3:Int):Option (Int):=
 LL T B lf 69 0 (ms 52 [(12,aX t3),(11,aX t2),(10, .rv (.cv ⟨.slice (.st yT),t⟩)),(1, .rv (.cv ⟨.slice (.st yT),c⟩)),(0,aX p)] [] h0 69)
def sP (t:Int×Int×Unit)(t2:Int):Option (Bool):=c6 T B lf 71 (t,t2)
def sQ (t:Int×Int×Unit)(t2:mJ)(t3:zqC):Option (Bool):=c6 T B lf 72 (t,t2,t3)
def ux (c:mJ)(x:dk):Option dk:=c6 T B lf 73 (c,x)
def nf (t:dk)(t2:Int)(t3:Int)(out:dk)(c:Int)(c2:xP):Option dk:=
 LL T B lf 73 0 ⟨⟨31,[(9,aX t3),(8,aX t2),(7, .rv (.cv ⟨.slice (.st yT),t⟩)),(4, .rv (.own 4)),(2, .box 2 0)],gl⟩,[(4,⟨44, .st yT,out⟩)],[(2, .cells [⟨.int .i64,c⟩,⟨.slice (.st yC),c2⟩])],h0,⟨.unit,()⟩,[],T.sites 73⟩
def fj (out:dk)(t:dk)(t2:Int)(t3:Int)(c:Int)(c2:xP):Option dk:=
 LL T B lf 73 0 (ms 31 [(9,aX t3),(8,aX t2),(7, .rv (.cv ⟨.slice (.st yT),t⟩)),(4, .rv (.cv ⟨.slice (.st yT),out⟩)),(2, .box 2 0)] [(2, .cells [⟨.int .i64,c⟩,⟨.slice (.st yC),c2⟩])] h0 73)
def pk (a:(Bool×(List Int)×Unit)×(Bool×(List Int)×Unit)×Unit)(b:(Bool×(List Int)×Unit)×(Bool×(List Int)×Unit)×Unit):Option (Int):=c6 T B lf 74 (a,b)
def uy (s:ByteArray)(sep:ByteArray):Option (ByteArray×ByteArray×Bool):=c6 T B lf 75 (s,sep)
def Fh (a:ByteArray):Option ((Bool×(List Int)×Unit)×Bool):=c6 T B lf 76 a
def jK (s:ByteArray)(neg:Bool)(Es:Int)(d:List Int)(t:Bool)(t2:List Int):Option ((Bool×(List Int)×Unit)×Bool):=
 LL T B lf 76 0 ⟨⟨71,[(7,aX Es),(6, .rv (.own 6)),(5, .rv (.cv ⟨.bool,neg⟩)),(4, .rv (.cv ⟨.str,s⟩)),(2, .box 2 0)],gl⟩,[(6,⟨168, .int .u32,d⟩)],[(2, .cells [⟨.bool,t⟩,⟨.slice (.int .u32),t2⟩])],h0,⟨.unit,()⟩,[],T.sites 76⟩
def nM (s:ByteArray)(neg:Bool)(Es:Int)(x:Int)(t:List Int)(t2:Int)(t3:Int)(d:List Int)(t4:Bool)(t5:List Int):Option ((Bool×(List Int)×Unit)×Bool):=
 LL T B lf 76 1 ⟨⟨71,[(46,aX t3),(45,aX t2),(44, .rv (.cv ⟨.slice (.int .u8),t⟩)),(8, .rv (.cv ⟨.int .u32,x⟩)),(7,aX Es),(6, .rv (.own 6)),(5, .rv (.cv ⟨.bool,neg⟩)),(4, .rv (.cv ⟨.str,s⟩)),(2, .box 2 0)],gl⟩,[(6,⟨168, .int .u32,d⟩)],[(2, .cells [⟨.bool,t4⟩,⟨.slice (.int .u32),t5⟩])],h0,⟨.unit,()⟩,[],T.sites 76⟩
def xQ (n:Int):Option (Bool×(List Int)×Unit):=c6 T B lf 77 n
def uz (u:Int)(neg:Bool)(d:List Int)(t:Bool)(t2:List Int):Option (Bool×(List Int)×Unit):=
 LL T B lf 77 0 ⟨⟨26,[(5, .rv (.own 5)),(4, .rv (.cv ⟨.bool,neg⟩)),(3, .rv (.cv ⟨.int .u64,u⟩)),(2, .box 2 0)],gl⟩,[(5,⟨168, .int .u32,d⟩)],[(2, .cells [⟨.bool,t⟩,⟨.slice (.int .u32),t2⟩])],h0,⟨.unit,()⟩,[],T.sites 77⟩
def iL (a:Bool×(List Int)×Unit):Option (Int):=c6 T B lf 78 a
def fK (a:Bool×(List Int)×Unit)(b:Bool×(List Int)×Unit):Option (Int):=c6 T B lf 79 (a,b)
def pn (a:Bool×(List Int)×Unit)(b:Bool×(List Int)×Unit):Option (Bool×(List Int)×Unit):=c6 T B lf 80 (a,b)
def eA (x:List Int)(y:List Int)(t:Bool)(t2:List Int):Option (Bool×(List Int)×Unit):=
 LL T B lf 80 0 (ms 41 [(6, .rv (.cv ⟨.slice (.int .u32),y⟩)),(5, .rv (.cv ⟨.slice (.int .u32),x⟩)),(4, .box 4 0)] [(4, .cells [⟨.bool,t⟩,⟨.slice (.int .u32),t2⟩])] h0 80)
def po (a:Bool×(List Int)×Unit):Option (Bool×(List Int)×Unit):=c6 T B lf 81 a
def jL (a:(Bool×(List Int)×Unit)×(Bool×(List Int)×Unit)×Unit):Option (Bool×(List Int)×Unit):=c6 T B lf 82 a
def ng (a:Bool×(List Int)×Unit):Option (ByteArray):=c6 T B lf 83 a
def dI (t:List Int)(t2:Int)(t3:Int)(out:List Int)(a:Bool)(a2:List Int):Option (ByteArray):=
 LL T B lf 83 0 ⟨⟨81,[(21,aX t3),(20,aX t2),(19, .rv (.cv ⟨.slice (.int .u32),t⟩)),(3, .rv (.own 3)),(1, .box 1 0)],gl⟩,[(3,⟨5, .int .u8,out⟩)],[(1, .cells [⟨.bool,a⟩,⟨.slice (.int .u32),a2⟩])],h0,⟨.unit,()⟩,[],T.sites 83⟩
def eM (x:Int)(t:List Int)(t2:Int)(t3:Int)(t4:Int)(out:List Int)(a:Bool)(a2:List Int):Option (ByteArray):=
 LL T B lf 83 1 ⟨⟨81,[(25,aX t4),(21,aX t3),(20,aX t2),(19, .rv (.cv ⟨.slice (.int .u32),t⟩)),(5, .rv (.cv ⟨.int .u32,x⟩)),(3, .rv (.own 3)),(1, .box 1 0)],gl⟩,[(3,⟨5, .int .u8,out⟩)],[(1, .cells [⟨.bool,a⟩,⟨.slice (.int .u32),a2⟩])],h0,⟨.unit,()⟩,[],T.sites 83⟩
def dJ (out:List Int)(a:Bool)(a2:List Int):Option (ByteArray):=
 LL T B lf 83 2 ⟨⟨81,[(3, .rv (.own 3)),(1, .box 1 0)],gl⟩,[(3,⟨5, .int .u8,out⟩)],[(1, .cells [⟨.bool,a⟩,⟨.slice (.int .u32),a2⟩])],h0,⟨.unit,()⟩,[],T.sites 83⟩
def dK (i:Int)(j:Int)(out:List Int):Option (ByteArray):=
 LL T B lf 83 3 ⟨⟨81,[(7,aX j),(6,aX i),(3, .rv (.own 3))],gl⟩,[(3,⟨5, .int .u8,out⟩)],[],h0,⟨.unit,()⟩,[],T.sites 83⟩
def lM (s:dk):Option dk:=c6 T B lf 84 s
def jh (c:dk):Option (Int×Bool):=c6 T B lf 85 c
def zd (p:Int)(a:Int):Option (Int×Int):=c6 T B lf 86 (p,a)
def ji (p:Int)(a:dk)(k:Int)(b:dk):Option (dk×Int):=c6 T B lf 87 (p,a,k,b)
def sR (p:Int)(a:Int):Option (Int):=c6 T B lf 88 (p,a)
def rB (l:List Int)(most:Int)(n:Int):Option (List Int):=c6 T B lf 93 (l,most,n)
def gf (l:List Int)(most:Int)(n:Int)(i:Int)(out:List Int):Option (List Int):=
 LL T B lf 93 0 ⟨⟨52,[(8,aX i),(7, .rv (.own 7)),(2,aX n),(1,aX most),(0, .rv (.cv ⟨.slice (.int .i64),l⟩))],gl⟩,[(7,⟨3, .int .i64,out⟩)],[],h0,⟨.unit,()⟩,[],T.sites 93⟩
def lN (l:List (List Int)):Option (List (List Int)):=c6 T B lf 94 l
def fz (l:List (List Int))(i:Int)(out:List (List Int)):Option (List (List Int)):=
 LL T B lf 94 0 ⟨⟨31,[(4,aX i),(3, .rv (.own 3)),(0, .rv (.cv ⟨.slice (.slice (.int .i64)),l⟩))],gl⟩,[(3,⟨26, .slice (.int .i64),out⟩)],[],h0,⟨.unit,()⟩,[],T.sites 94⟩
def qE (l:List (List Int))(i:Int)(f:List (List Int))(k:Int)(out:List (List Int)):Option (List (List Int)):=
 LL T B lf 94 1 ⟨⟨31,[(6,aX k),(5, .rv (.cv ⟨.slice (.slice (.int .i64)),f⟩)),(4,aX i),(3, .rv (.own 3)),(0, .rv (.cv ⟨.slice (.slice (.int .i64)),l⟩))],gl⟩,[(3,⟨26, .slice (.int .i64),out⟩)],[],h0,⟨.unit,()⟩,[],T.sites 94⟩
def cH (l:List (List Int))(out:List (List Int))(i:Int)(f:List (List Int))(k:Int):Option (List (List Int)):=
 LL T B lf 94 1 (ms 31 [(6,aX k),(5, .rv (.cv ⟨.slice (.slice (.int .i64)),f⟩)),(4,aX i),(3, .rv (.cv ⟨.slice (.slice (.int .i64)),out⟩)),(0, .rv (.cv ⟨.slice (.slice (.int .i64)),l⟩))] [] h0 94)
def gQ (l:List (List Int))(out:List (List Int))(i:Int):Option (List (List Int)):=
 LL T B lf 94 0 (ms 31 [(4,aX i),(3, .rv (.cv ⟨.slice (.slice (.int .i64)),out⟩)),(0, .rv (.cv ⟨.slice (.slice (.int .i64)),l⟩))] [] h0 94)
def gg (a:Int)(b:Int):Option (ByteArray):=c6 T B lf 95 (a,b)
def rC (l:List (List Int)):Option (Int):=c6 T B lf 96 l
def eI (l:List (List Int))(i:Int):Option (Int):=
 LL T B lf 96 0 (ms 72 [(3,aX i),(0, .rv (.cv ⟨.slice (.slice (.int .i64)),l⟩))] [] h0 96)
def gh (l:List (List Int))(i:Int)(f:List (List Int))(k:Int):Option (Int):=
 LL T B lf 96 1 (ms 72 [(6,aX k),(5, .rv (.cv ⟨.slice (.slice (.int .i64)),f⟩)),(3,aX i),(0, .rv (.cv ⟨.slice (.slice (.int .i64)),l⟩))] [] h0 96)
def vu (a:List Int)(b:List Int):Option (Bool):=c6 T B lf 97 (a,b)
def iU (a:List Int)(b:List Int)(i:Int):Option (Bool):=
 LL T B lf 97 0 (ms 19 [(5,aX i),(1, .rv (.cv ⟨.slice (.int .i64),b⟩)),(0, .rv (.cv ⟨.slice (.int .i64),a⟩))] [] h0 97)
def lO (l:List ((List Int)×ByteArray×Unit)):Option (List ((List Int)×ByteArray×Unit)):=c6 T B lf 98 l
def bE (out:Nat)(i:Int)(aF:H4)(kD:H8):Option (List ((List Int)×ByteArray×Unit)):=
 LL T B lf 98 0 (ms 70 [(4,aX i),(3, .rv (.cv ⟨.ref 8,out⟩))] [] (hs [] [] [] [] aF [] [] [] kD [] []) 98)
def dP (out:Nat)(i:Int)(k:Int)(aF:H4)(kD:H8):Option (List ((List Int)×ByteArray×Unit)):=
 LL T B lf 98 1 (ms 70 [(5,aX k),(4,aX i),(3, .rv (.cv ⟨.ref 8,out⟩))] [] (hs [] [] [] [] aF [] [] [] kD [] []) 98)
def lD (f:List ((List Int)×ByteArray×Unit))(i:Int):Option (Int):=c6 T B lf 99 (f,i)
def eB (f:List ((List Int)×ByteArray×Unit))(n:Int)(s:List Int):Option (Int):=c6 T B lf 100 (f,n,s)
def cN (f:List ((List Int)×ByteArray×Unit))(n:Int)(s:List Int)(i:Int):Option (Int):=
 LL T B lf 100 0 (ms 22 [(7,aX i),(2, .rv (.cv ⟨.slice (.int .i64),s⟩)),(1,aX n),(0, .rv (.cv ⟨.slice (.st (.pair (.slice (.int .i64)) (.pair (.str) (.unit)))),f⟩))] [] h0 100)
def ic (s:List Int)(k:Int):Option (List Int):=c6 T B lf 101 (s,k)
def bT (s:List Int)(k:Int)(i:Int)(out:List Int):Option (List Int):=
 LL T B lf 101 0 ⟨⟨24,[(6,aX i),(5, .rv (.own 5)),(1,aX k),(0, .rv (.cv ⟨.slice (.int .i64),s⟩))],gl⟩,[(5,⟨3, .int .i64,out⟩)],[],h0,⟨.unit,()⟩,[],T.sites 101⟩
def lE (a:ByteArray):Option (Bool):=c6 T B lf 102 a
def pq (a:ByteArray):Option (Bool):=c6 T B lf 103 a
def bP (a:ByteArray)(b:ByteArray):Option (Int):=c6 T B lf 104 (a,b)
def fA (a:ByteArray)(b:ByteArray):Option (ByteArray):=c6 T B lf 105 (a,b)
def bC (p:Bool)(x:List Int)(q:Bool)(y:List Int)(i:Int)(out:List Int):Option (ByteArray):=
 LL T B lf 105 0 ⟨⟨120,[(14,aX i),(13, .rv (.own 13)),(12, .rv (.cv ⟨.slice (.int .i64),y⟩)),(11, .rv (.cv ⟨.bool,q⟩)),(10, .rv (.cv ⟨.slice (.int .i64),x⟩)),(9, .rv (.cv ⟨.bool,p⟩))],gl⟩,[(13,⟨3, .int .i64,out⟩)],[],h0,⟨.unit,()⟩,[],T.sites 105⟩
def dw (p:Bool)(x:List Int)(q:Bool)(y:List Int)(i:Int)(k:Int)(out:List Int):Option (ByteArray):=
 LL T B lf 105 1 ⟨⟨120,[(15,aX k),(14,aX i),(13, .rv (.own 13)),(12, .rv (.cv ⟨.slice (.int .i64),y⟩)),(11, .rv (.cv ⟨.bool,q⟩)),(10, .rv (.cv ⟨.slice (.int .i64),x⟩)),(9, .rv (.cv ⟨.bool,p⟩))],gl⟩,[(13,⟨3, .int .i64,out⟩)],[],h0,⟨.unit,()⟩,[],T.sites 105⟩
def cO (p:Bool)(q:Bool)(i:Int)(out:List Int):Option (ByteArray):=
 LL T B lf 105 2 ⟨⟨120,[(16,aX i),(13, .rv (.own 13)),(11, .rv (.cv ⟨.bool,q⟩)),(9, .rv (.cv ⟨.bool,p⟩))],gl⟩,[(13,⟨3, .int .i64,out⟩)],[],h0,⟨.unit,()⟩,[],T.sites 105⟩
def au (a:ByteArray):Option (Bool×List Int):=c6 T B lf 106 a
def c8 (a:ByteArray)(minus:Bool)(i:Int)(d:List Int):Option (Bool×List Int):=
 LL T B lf 106 0 ⟨⟨37,[(6,aX i),(5, .rv (.own 5)),(4, .rv (.cv ⟨.bool,minus⟩)),(0, .rv (.cv ⟨.str,a⟩))],gl⟩,[(5,⟨3, .int .i64,d⟩)],[],h0,⟨.unit,()⟩,[],T.sites 106⟩
def ar (minus:Bool)(d:List Int):Option (ByteArray):=c6 T B lf 107 (minus,d)
def dQ (d:List Int)(i:Int)(out:List Int):Option (ByteArray):=
 LL T B lf 107 0 ⟨⟨34,[(6,aX i),(5, .rv (.own 5)),(1, .rv (.cv ⟨.slice (.int .i64),d⟩))],gl⟩,[(5,⟨5, .int .u8,out⟩)],[],h0,⟨.unit,()⟩,[],T.sites 107⟩
def BM (a:ByteArray):Option (((Bool×(List Int)×Unit)×(Bool×(List Int)×Unit)×Unit)×Bool):=c6 T B lf 108 a
def pr (a:Bool×(List Int)×Unit)(b:Bool×(List Int)×Unit):Option (Bool×(List Int)×Unit):=c6 T B lf 110 (a,b)
def dn (t:List Int)(t2:Int)(t3:Int)(out:List Int)(a:Bool)(a2:List Int)(b:Bool)(b2:List Int)(t4:Bool)(t5:List Int):Option (Bool×(List Int)×Unit):=
 LL T B lf 110 0 ⟨⟨78,[(22,aX t3),(21,aX t2),(20, .rv (.cv ⟨.slice (.int .u32),t⟩)),(5, .rv (.own 5)),(4, .box 4 0),(3, .box 3 0),(2, .box 2 0)],gl⟩,[(5,⟨168, .int .u32,out⟩)],[(2, .cells [⟨.bool,a⟩,⟨.slice (.int .u32),a2⟩]),(3, .cells [⟨.bool,b⟩,⟨.slice (.int .u32),b2⟩]),(4, .cells [⟨.bool,t4⟩,⟨.slice (.int .u32),t5⟩])],h0,⟨.unit,()⟩,[],T.sites 110⟩
def fB (i:Int)(x:Int)(carry:Int)(t:List Int)(t2:Int)(t3:Int)(t4:List Int)(t5:Int)(t6:Int)(out:List Int)(a:Bool)(a2:List Int)(b:Bool)(b2:List Int)(t7:Bool)(t8:List Int):Option (Bool×(List Int)×Unit):=
 LL T B lf 110 1 ⟨⟨78,[(30,aX t6),(29,aX t5),(28, .rv (.cv ⟨.slice (.int .u32),t4⟩)),(22,aX t3),(21,aX t2),(20, .rv (.cv ⟨.slice (.int .u32),t⟩)),(8, .rv (.cv ⟨.int .u64,carry⟩)),(7, .rv (.cv ⟨.int .u32,x⟩)),(6,aX i),(5, .rv (.own 5)),(4, .box 4 0),(3, .box 3 0),(2, .box 2 0)],gl⟩,[(5,⟨168, .int .u32,out⟩)],[(2, .cells [⟨.bool,a⟩,⟨.slice (.int .u32),a2⟩]),(3, .cells [⟨.bool,b⟩,⟨.slice (.int .u32),b2⟩]),(4, .cells [⟨.bool,t7⟩,⟨.slice (.int .u32),t8⟩])],h0,⟨.unit,()⟩,[],T.sites 110⟩
def o9 (s:ByteArray)(sep:ByteArray):Option (ByteArray×ByteArray×Bool):=c6 T B lf 111 (s,sep)
def iV (s:ByteArray)(fk:ByteArray):Option (ByteArray×Bool):=c6 T B lf 112 (s,fk)
def jl (neg:Bool)(d:List Int):Option (Bool×(List Int)×Unit):=c6 T B lf 113 (neg,d)
def ze (a:List Int)(b:List Int):Option (Int):=c6 T B lf 114 (a,b)
def nN (a:List Int)(b:List Int)(i:Int):Option (Int):=
 LL T B lf 114 0 (ms 41 [(5,aX i),(1, .rv (.cv ⟨.slice (.int .u32),b⟩)),(0, .rv (.cv ⟨.slice (.int .u32),a⟩))] [] h0 114)
def Fj (x:Int)(y:Int):Option (Int):=c6 T B lf 115 (x,y)
def lP (x:Int)(y:Int):Option (Int):=
 LL T B lf 115 0 (ms 12 [(1,aX y),(0,aX x)] [] h0 115)
def Fk (d:List Int):Option (Int):=c6 T B lf 116 d
def qF (d:List Int)(n:Int)(i:Int):Option (Int):=
 LL T B lf 116 0 (ms 21 [(4,aX i),(3,aX n),(0, .rv (.cv ⟨.slice (.int .u32),d⟩))] [] h0 116)
def xR (a:List Int)(b:List Int):Option ((List Int)×List Int):=c6 T B lf 117 (a,b)
def ni (d:List Int):Option (List Int):=c6 T B lf 118 d
def nO (d:List Int):Option (List Int):=
 LL T B lf 118 0 (ms 21 [(0, .rv (.cv ⟨.slice (.int .u32),d⟩))] [] h0 118)
def GV (p:Int):Option (Int×Int):=c6 T B lf 119 p
def eg (f:Int)(a:Int):Option (Int):=c6 T B lf 120 (f,a)
def ke (f:Int)(a:Int):Option (Int):=c6 T B lf 121 (f,a)
def pa (p:Int)(l:List dk):Option (Int):=c6 T B lf 122 (p,l)
def fm (p:Int)(t:List dk)(t2:Int)(t3:Int):Option (Int):=
 LL T B lf 122 0 (ms 21 [(10,aX t3),(9,aX t2),(8, .rv (.cv ⟨.slice (.slice (.st yT)),t⟩)),(0,aX p)] [] h0 122)
def uA (p:Int)(a:dk)(k:Int)(b:dk):Option dk:=c6 T B lf 123 (p,a,k,b)
def iM (row:dk)(p:Int)(k:Int)(rest:List (Int×Gl×Unit)):Option dk:=
 LL T B lf 123 0 ⟨⟨36,[(9, .box 9 0),(6, .box 6 0),(4, .box 4 0)],[(10009, .box 9 0),(10006, .box 6 0),(10004, .box 4 0),(1000000000, .pg [⟨.fn,(197:Nat)⟩,⟨.bool,false⟩]),(1000000001, .pg [⟨.fn,(199:Nat)⟩,⟨.bool,true⟩])]⟩,[(9,⟨44, .st yT,row⟩)],[(4, .cells [⟨.int .i64,p⟩]),(6, .cells [⟨.int .i64,k⟩]),(9, .own 9)],h0,⟨.unit,()⟩,[⟨[.int .i64, .st yT],rest⟩],T.sites 123⟩
def pw (a:List Int)(v:Int):Option (Bool):=c6 T B lf 134 (a,v)
def jX (a:List Int)(v:Int)(i:Int):Option (Bool):=
 LL T B lf 134 0 (ms 18 [(5,aX i),(1,aX v),(0, .rv (.cv ⟨.slice (.int .i64),a⟩))] [] h0 134)
def iW (l:List Int):Option ((List Int)×Int):=c6 T B lf 135 l
def dR (n:Int)(i:Int)(out:List Int):Option ((List Int)×Int):=
 LL T B lf 135 0 ⟨⟨54,[(6,aX i),(5,aX n),(4, .rv (.own 4))],gl⟩,[(4,⟨3, .int .i64,out⟩)],[],h0,⟨.unit,()⟩,[],T.sites 135⟩
def fC (n:Int)(i:Int)(k:Int)(out:List Int):Option ((List Int)×Int):=
 LL T B lf 135 1 ⟨⟨54,[(7,aX k),(6,aX i),(5,aX n),(4, .rv (.own 4))],gl⟩,[(4,⟨3, .int .i64,out⟩)],[],h0,⟨.unit,()⟩,[],T.sites 135⟩
def jY (s:List Int):Option (List (List Int)):=c6 T B lf 136 s
def rY (s:List Int)(m:Int)(out:List (List Int)):Option (List (List Int)):=
 LL T B lf 136 0 ⟨⟨36,[(4,aX m),(3, .rv (.own 3)),(0, .rv (.cv ⟨.slice (.int .i64),s⟩))],gl⟩,[(3,⟨26, .slice (.int .i64),out⟩)],[],h0,⟨.unit,()⟩,[],T.sites 136⟩
def gi (s:List Int)(m:Int)(i:Int)(out:List (List Int))(f:List Int):Option (List (List Int)):=
 LL T B lf 136 1 ⟨⟨36,[(6,aX i),(5, .rv (.own 5)),(4,aX m),(3, .rv (.own 3)),(0, .rv (.cv ⟨.slice (.int .i64),s⟩))],gl⟩,[(3,⟨26, .slice (.int .i64),out⟩),(5,⟨3, .int .i64,f⟩)],[],h0,⟨.unit,()⟩,[],T.sites 136⟩
def c9 (s:List Int)(out:List (List Int))(m:Int):Option (List (List Int)):=
 LL T B lf 136 0 (ms 36 [(4,aX m),(3, .rv (.cv ⟨.slice (.slice (.int .i64)),out⟩)),(0, .rv (.cv ⟨.slice (.int .i64),s⟩))] [] h0 136)
def fD (s:List Int)(out:List (List Int))(m:Int)(i:Int)(f:List Int):Option (List (List Int)):=
 LL T B lf 136 1 ⟨⟨36,[(6,aX i),(5, .rv (.own 5)),(4,aX m),(3, .rv (.cv ⟨.slice (.slice (.int .i64)),out⟩)),(0, .rv (.cv ⟨.slice (.int .i64),s⟩))],gl⟩,[(5,⟨3, .int .i64,f⟩)],[],h0,⟨.unit,()⟩,[],T.sites 136⟩
def fe (l:List (List Int))(s:List Int):Option (List (List Int)):=c6 T B lf 137 (l,s)
def iX (l:List (List Int))(s:List Int)(done:Bool)(i:Int)(out:List (List Int)):Option (List (List Int)):=
 LL T B lf 137 0 ⟨⟨48,[(7,aX i),(6, .rv (.cv ⟨.bool,done⟩)),(5, .rv (.own 5)),(1, .rv (.cv ⟨.slice (.int .i64),s⟩)),(0, .rv (.cv ⟨.slice (.slice (.int .i64)),l⟩))],gl⟩,[(5,⟨26, .slice (.int .i64),out⟩)],[],h0,⟨.unit,()⟩,[],T.sites 137⟩
def kf (n:ByteArray)(d:ByteArray):Option (ByteArray):=c6 T B lf 138 (n,d)
def bL (n:Int):Option (ByteArray):=c6 T B lf 139 n
def da (q:Int)(d:List Int):Option (ByteArray):=
 LL T B lf 139 0 ⟨⟨42,[(5, .rv (.own 5)),(3,aX q)],gl⟩,[(5,⟨3, .int .i64,d⟩)],[],h0,⟨.unit,()⟩,[],T.sites 139⟩
def db (n:Int)(d:List Int):Option (ByteArray):=
 LL T B lf 139 1 ⟨⟨42,[(6, .rv (.own 6)),(0,aX n)],gl⟩,[(6,⟨3, .int .i64,d⟩)],[],h0,⟨.unit,()⟩,[],T.sites 139⟩
def fE (s:List Int):Option (Int):=c6 T B lf 140 s
def dx (s:List Int)(i:Int):Option (Int):=
 LL T B lf 140 0 (ms 45 [(3,aX i),(0, .rv (.cv ⟨.slice (.int .i64),s⟩))] [] h0 140)
def dy (s:List Int)(i:Int):Option (Int):=
 LL T B lf 140 1 (ms 45 [(4,aX i),(0, .rv (.cv ⟨.slice (.int .i64),s⟩))] [] h0 140)
def rD (l:List (List Int))(s:List Int):Option (Int):=c6 T B lf 141 (l,s)
def gj (l:List (List Int))(s:List Int)(i:Int):Option (Int):=
 LL T B lf 141 0 (ms 20 [(5,aX i),(1, .rv (.cv ⟨.slice (.int .i64),s⟩)),(0, .rv (.cv ⟨.slice (.slice (.int .i64)),l⟩))] [] h0 141)
def qm (l:List ((List Int)×ByteArray×Unit))(kD:H8)(aF:H4):Option ((Nat)×H8×H4):=c6 T B lf 142 (l,(kD,aF))
def fF (l:List ((List Int)×ByteArray×Unit))(out:Nat)(i:Int)(aF:H4)(kD:H8):Option ((Nat)×H8×H4):=
 LL T B lf 142 0 (ms 28 [(4,aX i),(3, .rv (.cv ⟨.ref 8,out⟩)),(0, .rv (.cv ⟨.slice (.st (.pair (.slice (.int .i64)) (.pair (.str) (.unit)))),l⟩))] [] (hs [] [] [] [] aF [] [] [] kD [] []) 142)
def jm (a:ByteArray):Option (Bool):=c6 T B lf 143 a
def jZ (a:ByteArray):Option (Bool):=c6 T B lf 144 a
def cP (s:ByteArray)(i:Int):Option (Bool):=
 LL T B lf 144 0 (ms 53 [(4,aX i),(3, .rv (.cv ⟨.str,s⟩))] [] h0 144)
def dS (a:ByteArray)(b:ByteArray):Option (ByteArray):=c6 T B lf 145 (a,b)
def cI (x:ByteArray)(y:ByteArray):Option (ByteArray):=
 LL T B lf 145 0 (ms 24 [(6, .rv (.cv ⟨.str,y⟩)),(5, .rv (.cv ⟨.str,x⟩))] [] h0 145)
def dm (a:List Int)(b:List Int):Option (Int):=c6 T B lf 146 (a,b)
def dT (a:List Int)(b:List Int)(i:Int):Option (Int):=
 LL T B lf 146 0 (ms 41 [(5,aX i),(1, .rv (.cv ⟨.slice (.int .i64),b⟩)),(0, .rv (.cv ⟨.slice (.int .i64),a⟩))] [] h0 146)
def dp (a:ByteArray):Option (Int×Bool):=c6 T B lf 147 a
def dz (a:ByteArray)(n:Int)(i:Int):Option (Int×Bool):=
 LL T B lf 147 0 (ms 38 [(5,aX i),(4,aX n),(0, .rv (.cv ⟨.str,a⟩))] [] h0 147)
def bk (d:List Int):Option (List Int):=c6 T B lf 148 d
def dV (d:List Int):Option (List Int):=
 LL T B lf 148 0 (ms 21 [(0, .rv (.cv ⟨.slice (.int .i64),d⟩))] [] h0 148)
def nj (a:(Bool×(List Int)×Unit)×(Bool×(List Int)×Unit)×Unit):Option (Bool):=c6 T B lf 149 a
def iY (s:ByteArray)(substr:ByteArray):Option (Int):=c6 T B lf 150 (s,substr)
def gR (s:ByteArray)(fk:ByteArray):Option (ByteArray×Bool):=c6 T B lf 151 (s,fk)
def uB (a:List Int)(b:Int):Option ((List Int)×Int):=c6 T B lf 152 (a,b)
def lQ (a:List Int)(b:Int)(rest:Int)(i:Int)(out:List Int):Option ((List Int)×Int):=
 LL T B lf 152 0 ⟨⟨42,[(8,aX i),(7, .rv (.cv ⟨.int .u64,rest⟩)),(6, .rv (.own 6)),(1, .rv (.cv ⟨.int .u32,b⟩)),(0, .rv (.cv ⟨.slice (.int .u32),a⟩))],gl⟩,[(6,⟨168, .int .u32,out⟩)],[],h0,⟨.unit,()⟩,[],T.sites 152⟩
def Fl (a:List Int)(b:List Int):Option ((List Int)×List Int):=c6 T B lf 153 (a,b)
def eN (k:Int)(v:List Int)(n:Int)(j:Int)(q:List Int)(u:List Int):Option ((List Int)×List Int):=
 LL T B lf 153 0 ⟨⟨239,[(10,aX j),(9,aX n),(8, .rv (.cv ⟨.slice (.int .u32),v⟩)),(7, .rv (.own 7)),(6, .rv (.cv ⟨.int .u32,k⟩)),(4, .rv (.own 4))],gl⟩,[(4,⟨168, .int .u32,q⟩),(7,⟨168, .int .u32,u⟩)],[],h0,⟨.unit,()⟩,[],T.sites 153⟩
def jM (k:Int)(v:List Int)(n:Int)(j:Int)(guess:Int)(rest:Int)(q:List Int)(u:List Int):Option ((List Int)×List Int):=
 LL T B lf 153 1 ⟨⟨239,[(13, .rv (.cv ⟨.int .u64,rest⟩)),(12, .rv (.cv ⟨.int .u64,guess⟩)),(10,aX j),(9,aX n),(8, .rv (.cv ⟨.slice (.int .u32),v⟩)),(7, .rv (.own 7)),(6, .rv (.cv ⟨.int .u32,k⟩)),(4, .rv (.own 4))],gl⟩,[(4,⟨168, .int .u32,q⟩),(7,⟨168, .int .u32,u⟩)],[],h0,⟨.unit,()⟩,[],T.sites 153⟩
def gv (k:Int)(v:List Int)(n:Int)(j:Int)(guess:Int)(borrow:Int)(t:Int)(t2:Int)(q:List Int)(u:List Int):Option ((List Int)×List Int):=
 LL T B lf 153 2 ⟨⟨239,[(124,aX t2),(123,aX t),(14,aX borrow),(12, .rv (.cv ⟨.int .u64,guess⟩)),(10,aX j),(9,aX n),(8, .rv (.cv ⟨.slice (.int .u32),v⟩)),(7, .rv (.own 7)),(6, .rv (.cv ⟨.int .u32,k⟩)),(4, .rv (.own 4))],gl⟩,[(4,⟨168, .int .u32,q⟩),(7,⟨168, .int .u32,u⟩)],[],h0,⟨.unit,()⟩,[],T.sites 153⟩
def lR (k:Int)(v:List Int)(n:Int)(j:Int)(guess:Int)(x:Int)(carry:Int)(t:Int)(t2:Int)(q:List Int)(u:List Int):Option ((List Int)×List Int):=
 LL T B lf 153 3 ⟨⟨239,[(189,aX t2),(188,aX t),(18, .rv (.cv ⟨.int .u32,carry⟩)),(17,aX x),(12, .rv (.cv ⟨.int .u64,guess⟩)),(10,aX j),(9,aX n),(8, .rv (.cv ⟨.slice (.int .u32),v⟩)),(7, .rv (.own 7)),(6, .rv (.cv ⟨.int .u32,k⟩)),(4, .rv (.own 4))],gl⟩,[(4,⟨168, .int .u32,q⟩),(7,⟨168, .int .u32,u⟩)],[],h0,⟨.unit,()⟩,[],T.sites 153⟩
def nk (f:Int)(a:Int)(n:Int):Option (Int):=c6 T B lf 154 (f,a,n)
def dA (f:Int)(n:Int)(out:Int)(base:Int):Option (Int):=
 LL T B lf 154 0 (ms 30 [(8,aX base),(7,aX out),(2,aX n),(0,aX f)] [] h0 154)
def sS (a:dk)(b:dk):Option (dk×dk):=c6 T B lf 155 (a,b)
def dB (a:ByteArray)(b:ByteArray):Option (ByteArray×ByteArray):=c6 T B lf 161 (a,b)
def bo (b:ByteArray)(p:Bool)(x:List Int)(s:Bool)(y:List Int)(r:List Int)(i:Int)(q:List Int):Option (ByteArray×ByteArray):=
 LL T B lf 161 0 ⟨⟨164,[(19,aX i),(18, .rv (.cv ⟨.slice (.int .i64),r⟩)),(17, .rv (.own 17)),(15, .rv (.cv ⟨.slice (.int .i64),y⟩)),(14, .rv (.cv ⟨.bool,s⟩)),(13, .rv (.cv ⟨.slice (.int .i64),x⟩)),(12, .rv (.cv ⟨.bool,p⟩)),(1, .rv (.cv ⟨.str,b⟩))],gl⟩,[(17,⟨3, .int .i64,q⟩)],[],h0,⟨.unit,()⟩,[],T.sites 161⟩
def cz (b:ByteArray)(p:Bool)(x:List Int)(s:Bool)(y:List Int)(r:List Int)(i:Int)(k:Int)(q:List Int):Option (ByteArray×ByteArray):=
 LL T B lf 161 1 ⟨⟨164,[(20,aX k),(19,aX i),(18, .rv (.cv ⟨.slice (.int .i64),r⟩)),(17, .rv (.own 17)),(15, .rv (.cv ⟨.slice (.int .i64),y⟩)),(14, .rv (.cv ⟨.bool,s⟩)),(13, .rv (.cv ⟨.slice (.int .i64),x⟩)),(12, .rv (.cv ⟨.bool,p⟩)),(1, .rv (.cv ⟨.str,b⟩))],gl⟩,[(17,⟨3, .int .i64,q⟩)],[],h0,⟨.unit,()⟩,[],T.sites 161⟩
def aI (b:ByteArray)(p:Bool)(s:Bool)(r:List Int)(i:Int)(q:List Int):Option (ByteArray×ByteArray):=
 LL T B lf 161 2 ⟨⟨164,[(21,aX i),(18, .rv (.cv ⟨.slice (.int .i64),r⟩)),(17, .rv (.own 17)),(14, .rv (.cv ⟨.bool,s⟩)),(12, .rv (.cv ⟨.bool,p⟩)),(1, .rv (.cv ⟨.str,b⟩))],gl⟩,[(17,⟨3, .int .i64,q⟩)],[],h0,⟨.unit,()⟩,[],T.sites 161⟩
def eO (a:ByteArray):Option (Int):=c6 T B lf 162 a
def gm (a:ByteArray):Option (ByteArray):=c6 T B lf 163 a
def np (a:Bool×(List Int)×Unit):Option (Bool):=c6 T B lf 164 a
def eU (s:ByteArray)(c:Int):Option (Int):=c6 T B lf 165 (s,c)
def gS (s:ByteArray)(fk:ByteArray):Option (Bool):=c6 T B lf 169 (s,fk)
def xS (a:List Int)(k:Int):Option (List Int):=c6 T B lf 170 (a,k)
def jN (k:Int)(carry:Int)(t:List Int)(t2:Int)(t3:Int)(out:List Int):Option (List Int):=
 LL T B lf 170 0 ⟨⟨40,[(15,aX t3),(14,aX t2),(13, .rv (.cv ⟨.slice (.int .u32),t⟩)),(6, .rv (.cv ⟨.int .u64,carry⟩)),(5, .rv (.own 5)),(1, .rv (.cv ⟨.int .u32,k⟩))],gl⟩,[(5,⟨168, .int .u32,out⟩)],[],h0,⟨.unit,()⟩,[],T.sites 170⟩
def pb (t:dk)(t2:dk):Option (List (Int×Gl×Unit)):=c6 T B lf 171 ((),t,t2)
def dW (t:dk)(t2:dk)(trace:List (Int×Gl×Unit)):Option (List (Int×Gl×Unit)):=
 LL T B lf 171 0 ⟨⟨94,[(2, .box 2 0),(1, .box 1 0),(0, .Ly)],gl⟩,[],[(1, .cells [⟨.slice (.st yT),t⟩]),(2, .cells [⟨.slice (.st yT),t2⟩])],h0,⟨.slice (.pair (.int .i64) (.pair (.st yT) (.unit))),trace⟩,[],T.sites 171⟩
def aZ (a:List Int)(b:List Int):Option (List Int):=c6 T B lf 173 (a,b)
def bF (a:List Int)(b:List Int)(borrow:Int)(i:Int)(out:List Int):Option (List Int):=
 LL T B lf 173 0 ⟨⟨41,[(7,aX i),(6,aX borrow),(5, .rv (.own 5)),(1, .rv (.cv ⟨.slice (.int .i64),b⟩)),(0, .rv (.cv ⟨.slice (.int .i64),a⟩))],gl⟩,[(5,⟨3, .int .i64,out⟩)],[],h0,⟨.unit,()⟩,[],T.sites 173⟩
def j0 (a:ByteArray)(b:ByteArray):Option (ByteArray):=c6 T B lf 174 (a,b)
def gw (a:ByteArray)(b:ByteArray):Option (ByteArray):=c6 T B lf 175 (a,b)
def ie (a:Bool×(List Int)×Unit):Option (Int):=c6 T B lf 176 a
def dC (n:Int)(x:Int):Option (Int):=
 LL T B lf 176 0 (ms 29 [(4, .rv (.cv ⟨.int .u32,x⟩)),(3,aX n)] [] h0 176)
def iN (a:List Int)(b:List Int):Option (List Int):=c6 T B lf 179 (a,b)
def eP (a:List Int)(b:List Int)(carry:Int)(i:Int)(out:List Int):Option (List Int):=
 LL T B lf 179 0 ⟨⟨54,[(7,aX i),(6,aX carry),(5, .rv (.own 5)),(1, .rv (.cv ⟨.slice (.int .i64),b⟩)),(0, .rv (.cv ⟨.slice (.int .i64),a⟩))],gl⟩,[(5,⟨3, .int .i64,out⟩)],[],h0,⟨.unit,()⟩,[],T.sites 179⟩
def pc (c:mJ):Option mJ:=c6 T B lf 196 c
def lS (t:mJ):Option (List (Int×Unit)):=c6 T B lf 197 ((),t)
def dc (t:Int)(t2:Int)(trace:List (Int×Unit)):Option (List (Int×Unit)):=
 LL T B lf 197 0 ⟨⟨15,[(7,aX t2),(6,aX t),(0, .Ly)],gl⟩,[],[],h0,⟨.slice (.pair (.int .i64) (.unit)),trace⟩,[],T.sites 197⟩
def nq (c:mJ):Option mJ:=c6 T B lf 198 c
def kg (t:mJ):Option (List (Int×Unit)):=c6 T B lf 199 ((),t)
def bU (d:Int)(t:Int)(t2:xP)(trace:List (Int×Unit)):Option (List (Int×Unit)):=
 LL T B lf 199 0 ⟨⟨29,[(3,aX d),(1, .box 1 0),(0, .Ly)],gl⟩,[],[(1, .cells [⟨.int .i64,t⟩,⟨.slice (.st yC),t2⟩])],h0,⟨.slice (.pair (.int .i64) (.unit)),trace⟩,[],T.sites 199⟩
def cJ (d:Int)(t:xP)(t2:Int)(t3:Int)(t4:Int)(t5:xP)(trace:List (Int×Unit)):Option (List (Int×Unit)):=
 LL T B lf 199 1 ⟨⟨29,[(13,aX t3),(12,aX t2),(11, .rv (.cv ⟨.slice (.st yC),t⟩)),(3,aX d),(1, .box 1 0),(0, .Ly)],gl⟩,[],[(1, .cells [⟨.int .i64,t4⟩,⟨.slice (.st yC),t5⟩])],h0,⟨.slice (.pair (.int .i64) (.unit)),trace⟩,[],T.sites 199⟩
def mq (c:mJ)(bh:H2):Option ((Nat×Gl×Int)×H2):=c6 T B lf 100045 ((c,(),()),bh)
def kh (c:mJ)(bh:H2):Option ((Nat×Gl×Int)×H2):=c6 T B lf 100145 ((c,(),()),bh)
def gp (c:mJ)(bh:H2):Option ((Nat×Int×Int×Unit)×H2):=c6 T B lf 100046 (((),c),bh)
def cA (out:Nat)(t:Int)(t2:Int)(row:H2)(bR:List Int)(e:Bool)(c:Int)(c2:xP)(w:Int)(w2:Int)(bh:H2):Option ((Nat×Int×Int×Unit)×H2):=
 LL T B lf 100046 0 ⟨⟨155,[(28,aX t2),(27,aX t),(8, .box 8 0),(7, .box 7 0),(5, .box 5 0),(4, .rv (.cv ⟨.ref 3,out⟩)),(3, .box 3 0),(2, .box 2 0)],gl⟩,[(7,⟨40, .px (.st yT),row⟩),(8,⟨3, .int .i64,bR⟩)],[(2, .cells [⟨.fn,(197:Nat)⟩,⟨.bool,e⟩]),(3, .cells [⟨.int .i64,c⟩,⟨.slice (.st yC),c2⟩]),(5, .cells [⟨.int .i64,w⟩,⟨.int .i64,w2⟩]),(7, .own 7),(8, .own 8)],(hs [] [] [] bh [] [] [] [] [] [] []),⟨.unit,()⟩,[],T.sites 100046⟩
def ao (out:Nat)(ak:Nat)(row:H2)(bR:List Int)(e:Bool)(c:Int)(c2:xP)(w:Int)(w2:Int)(bh:H2)(rest:List (Int×Unit)):Option ((Nat×Int×Int×Unit)×H2):=
 LL T B lf 100046 1 ⟨⟨155,[(8, .box 8 0),(7, .box 7 0),(5, .box 5 0),(4, .rv (.cv ⟨.ref 3,out⟩)),(3, .box 3 0),(2, .box 2 0)],[(10008, .box 8 0),(10007, .box 7 0),(10005, .box 5 0),(10004, .rv (.cv ⟨.ref 3,ak⟩)),(10003, .box 3 0),(10002, .box 2 0),(1000000000, .pg [⟨.fn,(197:Nat)⟩,⟨.bool,false⟩]),(1000000001, .pg [⟨.fn,(199:Nat)⟩,⟨.bool,true⟩])]⟩,[(7,⟨40, .px (.st yT),row⟩),(8,⟨3, .int .i64,bR⟩)],[(2, .cells [⟨.fn,(197:Nat)⟩,⟨.bool,e⟩]),(3, .cells [⟨.int .i64,c⟩,⟨.slice (.st yC),c2⟩]),(5, .cells [⟨.int .i64,w⟩,⟨.int .i64,w2⟩]),(7, .own 7),(8, .own 8)],(hs [] [] [] bh [] [] [] [] [] [] []),⟨.unit,()⟩,[⟨[.int .i64],rest⟩],T.sites 100046⟩
def bp (out:Nat)(t:Int)(t2:Int)(t3:List Int)(w:Int)(w2:Int)(bh:H2):Option ((Nat×Int×Int×Unit)×H2):=
 LL T B lf 100046 3 ⟨⟨155,[(139,aX t2),(138,aX t),(137, .rv (.own 8)),(5, .box 5 0),(4, .rv (.cv ⟨.ref 3,out⟩))],gl⟩,[(8,⟨3, .int .i64,t3⟩)],[(5, .cells [⟨.int .i64,w⟩,⟨.int .i64,w2⟩])],(hs [] [] [] bh [] [] [] [] [] [] []),⟨.unit,()⟩,[],T.sites 100046⟩
def bD (j:Int)(x:dk)(low:Int)(Z2:Bool)(out:Nat)(row:H2)(bR:List Int)(e:Bool)(c:Int)(c2:xP)(w:Int)(w2:Int)(bh:H2)(rest:List (Int×Unit)):Option ((Nat×Int×Int×Unit)×H2):=
 LL T B lf 100046 2 ⟨⟨155,[(13, .rv (.cv ⟨.bool,Z2⟩)),(12,aX low),(11, .rv (.cv ⟨.slice (.st yT),x⟩)),(10,aX j),(8, .box 8 0),(7, .box 7 0),(5, .box 5 0),(3, .box 3 0)],[(10008, .box 8 0),(10007, .box 7 0),(10005, .box 5 0),(10004, .rv (.cv ⟨.ref 3,out⟩)),(10003, .box 3 0),(10002, .box 2 0),(1000000000, .pg [⟨.fn,(197:Nat)⟩,⟨.bool,false⟩]),(1000000001, .pg [⟨.fn,(199:Nat)⟩,⟨.bool,true⟩])]⟩,[(7,⟨40, .px (.st yT),row⟩),(8,⟨3, .int .i64,bR⟩)],[(2, .cells [⟨.fn,(197:Nat)⟩,⟨.bool,e⟩]),(3, .cells [⟨.int .i64,c⟩,⟨.slice (.st yC),c2⟩]),(5, .cells [⟨.int .i64,w⟩,⟨.int .i64,w2⟩]),(7, .own 7),(8, .own 8)],(hs [] [] [] bh [] [] [] [] [] [] []),⟨.unit,()⟩,[⟨[.int .i64],rest⟩],T.sites 100046⟩
def cB (c:mJ)(bh:H2):Option ((Nat×Int×Int×Unit)×H2):=c6 T B lf 100146 (((),c),bh)
def bW (out:Nat)(t:Int)(t2:Int)(row:H2)(bR:List Int)(e:Bool)(c:Int)(c2:xP)(w:Int)(w2:Int)(bh:H2):Option ((Nat×Int×Int×Unit)×H2):=
 LL T B lf 100146 0 ⟨⟨155,[(28,aX t2),(27,aX t),(8, .box 8 0),(7, .box 7 0),(5, .box 5 0),(4, .rv (.cv ⟨.ref 3,out⟩)),(3, .box 3 0),(2, .box 2 0)],gl⟩,[(7,⟨40, .px (.st yT),row⟩),(8,⟨3, .int .i64,bR⟩)],[(2, .cells [⟨.fn,(199:Nat)⟩,⟨.bool,e⟩]),(3, .cells [⟨.int .i64,c⟩,⟨.slice (.st yC),c2⟩]),(5, .cells [⟨.int .i64,w⟩,⟨.int .i64,w2⟩]),(7, .own 7),(8, .own 8)],(hs [] [] [] bh [] [] [] [] [] [] []),⟨.unit,()⟩,[],T.sites 100146⟩
def ah (out:Nat)(ak:Nat)(row:H2)(bR:List Int)(e:Bool)(c:Int)(c2:xP)(w:Int)(w2:Int)(bh:H2)(rest:List (Int×Unit)):Option ((Nat×Int×Int×Unit)×H2):=
 LL T B lf 100146 1 ⟨⟨155,[(8, .box 8 0),(7, .box 7 0),(5, .box 5 0),(4, .rv (.cv ⟨.ref 3,out⟩)),(3, .box 3 0),(2, .box 2 0)],[(10008, .box 8 0),(10007, .box 7 0),(10005, .box 5 0),(10004, .rv (.cv ⟨.ref 3,ak⟩)),(10003, .box 3 0),(10002, .box 2 0),(1000000000, .pg [⟨.fn,(197:Nat)⟩,⟨.bool,false⟩]),(1000000001, .pg [⟨.fn,(199:Nat)⟩,⟨.bool,true⟩])]⟩,[(7,⟨40, .px (.st yT),row⟩),(8,⟨3, .int .i64,bR⟩)],[(2, .cells [⟨.fn,(199:Nat)⟩,⟨.bool,e⟩]),(3, .cells [⟨.int .i64,c⟩,⟨.slice (.st yC),c2⟩]),(5, .cells [⟨.int .i64,w⟩,⟨.int .i64,w2⟩]),(7, .own 7),(8, .own 8)],(hs [] [] [] bh [] [] [] [] [] [] []),⟨.unit,()⟩,[⟨[.int .i64],rest⟩],T.sites 100146⟩
def bu (out:Nat)(t:Int)(t2:Int)(t3:List Int)(w:Int)(w2:Int)(bh:H2):Option ((Nat×Int×Int×Unit)×H2):=
 LL T B lf 100146 3 ⟨⟨155,[(139,aX t2),(138,aX t),(137, .rv (.own 8)),(5, .box 5 0),(4, .rv (.cv ⟨.ref 3,out⟩))],gl⟩,[(8,⟨3, .int .i64,t3⟩)],[(5, .cells [⟨.int .i64,w⟩,⟨.int .i64,w2⟩])],(hs [] [] [] bh [] [] [] [] [] [] []),⟨.unit,()⟩,[],T.sites 100146⟩
def bw (j:Int)(x:dk)(low:Int)(Z2:Bool)(out:Nat)(row:H2)(bR:List Int)(e:Bool)(c:Int)(c2:xP)(w:Int)(w2:Int)(bh:H2)(rest:List (Int×Unit)):Option ((Nat×Int×Int×Unit)×H2):=
 LL T B lf 100146 2 ⟨⟨155,[(13, .rv (.cv ⟨.bool,Z2⟩)),(12,aX low),(11, .rv (.cv ⟨.slice (.st yT),x⟩)),(10,aX j),(8, .box 8 0),(7, .box 7 0),(5, .box 5 0),(3, .box 3 0)],[(10008, .box 8 0),(10007, .box 7 0),(10005, .box 5 0),(10004, .rv (.cv ⟨.ref 3,out⟩)),(10003, .box 3 0),(10002, .box 2 0),(1000000000, .pg [⟨.fn,(197:Nat)⟩,⟨.bool,false⟩]),(1000000001, .pg [⟨.fn,(199:Nat)⟩,⟨.bool,true⟩])]⟩,[(7,⟨40, .px (.st yT),row⟩),(8,⟨3, .int .i64,bR⟩)],[(2, .cells [⟨.fn,(199:Nat)⟩,⟨.bool,e⟩]),(3, .cells [⟨.int .i64,c⟩,⟨.slice (.st yC),c2⟩]),(5, .cells [⟨.int .i64,w⟩,⟨.int .i64,w2⟩]),(7, .own 7),(8, .own 8)],(hs [] [] [] bh [] [] [] [] [] [] []),⟨.unit,()⟩,[⟨[.int .i64],rest⟩],T.sites 100146⟩
def kE (x:dk)(n:Int)(aF:H4):Option ((Nat)×H4):=c6 T B lf 102038 ((x,n),aF)
def dq (x:dk)(out:Nat)(i:Int)(aF:H4):Option ((Nat)×H4):=
 LL T B lf 102038 0 (ms 28 [(6,aX i),(5, .rv (.cv ⟨.ref 4,out⟩)),(0, .rv (.cv ⟨.slice (.st yT),x⟩))] [] (hs [] [] [] [] aF [] [] [] [] [] []) 102038)
def aU (v:Nat)(aF:H4):Option dk:=c6 T B lf 100040 (v,aF)
def bX (v:Nat)(i:Int)(out:dk)(aF:H4):Option dk:=
 LL T B lf 100040 0 ⟨⟨26,[(4,aX i),(3, .rv (.own 3)),(0, .rv (.cv ⟨.ref 4,v⟩))],gl⟩,[(3,⟨44, .st yT,out⟩)],[],[⟨42, .st yC,0,true,([]:H0)⟩,⟨42, .st yR,0,true,([]:H1)⟩,⟨44, .st yT,0,true,([]:H2)⟩,⟨58, .st yT,0,true,([]:H2)⟩,⟨3, .int .i64,0,false,aF⟩,⟨95, .st (.pair yH (.pair (.ref 6) (.pair (.ref 4) (.pair (.ref 7) yT)))),1,true,([]:List (Option (List (mJ×Nat×Nat×Nat×Int×Int×Unit))))⟩,⟨26, .px (.int .i64),0,true,([]:List (Option H4))⟩,⟨4, .bool,0,true,([]:H7)⟩,⟨101, .st (.pair (.ref 4) (.pair (.str) (.unit))),0,true,([]:H8)⟩,⟨24, .st (.pair (.int .i64) (.pair (.slice (.st yC)) (.unit))),0,true,([]:H9)⟩,⟨26, .ref 4,0,true,([]:H10)⟩],⟨.unit,()⟩,[],T.sites 100040⟩
def eC (s:dk)(f:Int):Option (Bool):=c6 T B lf 100070 (s,f)
def eD (s:dk)(f:mJ×zqC):Option (Bool):=c6 T B lf 100071 (s,f)
def iO (s:dk)(f:Int):Option (Int):=c6 T B lf 100109 (s,f)
def bY (s:dk)(f:Int)(t:Int)(t2:Int):Option (Int):=
 LL T B lf 100109 0 (ms 19 [(8,aX t2),(7,aX t),(1, .fn 71 [.pg [⟨.int .i64,f⟩]]),(0, .rv (.cv ⟨.slice (.st yT),s⟩))] [] h0 100109)
def iP (s:dk)(f:mJ×zqC):Option (Int):=c6 T B lf 100110 (s,f)
def bZ (s:dk)(f:Int)(f2:xP)(f3:Int)(f4:ByteArray)(f5:dk)(t:Int)(t2:Int):Option (Int):=
 LL T B lf 100110 0 (ms 19 [(8,aX t2),(7,aX t),(1, .fn 72 [.pg [⟨.int .i64,f⟩,⟨.slice (.st yC),f2⟩], .pg [⟨.int .i64,f3⟩,⟨.str,f4⟩,⟨.slice (.st yT),f5⟩]]),(0, .rv (.cv ⟨.slice (.st yT),s⟩))] [] h0 100110)
end
noncomputable section
def rE (rF:af dO)(sT:af gr)(Vb:af uw)(BN:af lL)(Et:af eC)(Eu:af eD)(Vd:af ux)(RF:af pk)(t:xP)(t2:Int)(t3:Int)(c:Int)(c2:xP)(last:Bool)(Wq:List Int)(Wr:Bool)(Ws:List Int):Option (Int):=
 bif (decide (t3<t2)) then
  (idx t t3).bind fun v0=>
  (sT v0.2.1).bind fun r1=>
  bif (decide (v0.1<0)) then
   some 1
  else
   bif (decide (v0.1>4)) then
    some 1
   else
    bif (!r1.2) then
     some 1
    else
     (Vb v0.2.1).bind fun r2=>
     bif (!r2) then
      some 1
     else
      (BN c v0.2.2.1).bind fun r3=>
      bif (r3 != 0) then
       some r3
      else
       (Et v0.2.2.1 t3).bind fun r4=>
       bif r4 then
        some 7
       else
        (Eu v0.2.2.1 ((c,(c2,())),(v0.1,(v0.2.1,(v0.2.2.1,()))))).bind fun r5=>
        bif r5 then
         some 10
        else
         (Vd (c,(c2,())) v0.2.2.1).bind fun r6=>
         bif (decide ((r6.length:Int)>0)) then
          some 11
         else
          bif (decide (t3>0)) then
           (RF ((r1.1.1.1,(r1.1.1.2.1,())),((r1.1.2.1.1,(r1.1.2.1.2.1,())),())) ((last,(Wq,())),((Wr,(Ws,())),()))).bind fun r7=>
           bif (decide (r7<0)) then
            some 6
           else
            rF t t2 (IntKind.wrap .i64 (t3+1)) c c2 r1.1.1.1 r1.1.1.2.1 r1.1.2.1.1 r1.1.2.1.2.1
          else
           rF t t2 (IntKind.wrap .i64 (t3+1)) c c2 r1.1.1.1 r1.1.1.2.1 r1.1.2.1.1 r1.1.2.1.2.1
 else
  some 0
theorem vv (t t2 t3 c c2 last Wq Wr Ws):dO t t2 t3 c c2 last Wq Wr Ws=rE dO gr uw lL eC eD ux pk t t2 t3 c c2 last Wq Wr Ws:=(l1 41 0 _).trans (by kernel_rfl)
def Ew (rF:af dO)(vw:af mo)(c:mJ):Option (Int):=
 (vw c.1).bind fun r0=>
 bif (!r0) then
  some 8
 else
  bif (decide ((c.2.1.length:Int)>1024)) then
   some 3
  else
   rF c.2.1 (c.2.1.length:Int) 0 c.1 c.2.1 false ([]:List Int) false ([]:List Int)
theorem Jd (c):jI c=Ew dO mo c:=(e1 41 _).trans (by kernel_rfl)
def zX (t:Int×Int×Unit)(t2:Int):Option (Bool):=
 some (decide (t.1≥t2))
theorem Fm (t t2):sP t t2=zX t t2:=(e1 71 _).trans (by kernel_rfl)
def zY (t:Int×Int×Unit)(t2:mJ)(t3:zqC):Option (Bool):=
 (idx t2.2.1 t.1).bind fun v0=>
 some (v0.1 != (IntKind.wrap .i64 (t3.1 - 1)))
theorem Fo (t t2 t3):sQ t t2 t3=zY t t2 t3:=(e1 72 _).trans (by kernel_rfl)
def xT (vz:af fj)(nU:af ji)(t:dk)(t2:Int)(t3:Int)(out:dk)(c:Int)(c2:xP):Option dk:=
 bif (decide (t3<t2)) then
  (idx t t3).bind fun v0=>
  (idx c2 v0.1).bind fun v1=>
  (nU c out v0.2.1 v1.2.2.1).bind fun r2=>
  vz r2.1 t t2 (IntKind.wrap .i64 (t3+1)) c c2
 else
  some out
theorem DD (t t2 t3 out c c2):nf t t2 t3 out c c2=xT fj ji t t2 t3 out c c2:=(l1 73 0 _).trans (by kernel_rfl)
def lT (vz:af fj)(nU:af ji)(out:dk)(t:dk)(t2:Int)(t3:Int)(c:Int)(c2:xP):Option dk:=
 bif (decide (t3<t2)) then
  (idx t t3).bind fun v0=>
  (idx c2 v0.1).bind fun v1=>
  (nU c out v0.2.1 v1.2.2.1).bind fun r2=>
  vz r2.1 t t2 (IntKind.wrap .i64 (t3+1)) c c2
 else
  some out
theorem nV (out t t2 t3 c c2):fj out t t2 t3 c c2=lT fj ji out t t2 t3 c c2:=(l1 73 0 _).trans (by kernel_rfl)
def Ey (PU:af nf)(c:mJ)(x:dk):Option dk:=
 PU x (x.length:Int) 0 ([]:dk) c.1 c.2.1
theorem Je (c x):ux c x=Ey nf c x:=(e1 73 _).trans (by kernel_rfl)
end
noncomputable section
def tl (zZ:af jG)(z6:af im)(sT:af gr)(RG:af pj)(PW:af nc)(last:Int)(t:Int)(t2:Int)(c:Int)(c2:xP)(t3:Int)(t4:Nat)(out:Int)(ak:Nat)(hp1:H1):Option (mJ×Int):=
 bif (decide (t2<t)) then
  (idx c2 (IntKind.wrap .i64 (last - t2))).bind fun v0=>
  (sT v0.2.1).bind fun r1=>
  (RG ((r1.1.1.1,(r1.1.1.2.1,())),((r1.1.2.1.1,(r1.1.2.1.2.1,())),()))).bind fun r2=>
  (PW ((r2.1.1,(r2.1.2.1,())),((r2.2.1.1,(r2.2.1.2.1,())),()))).bind fun r3=>
  (ai hp1 ak).bind fun v4=>
  (idx v4 t2).bind fun _=>
  (ai hp1 ak).bind fun v5=>
  (v5[t2.toNat]?).bind fun v6=>
  let e7:H1:=(ik hp1 ak (v5.set t2.toNat ((IntKind.wrap .i64 (4 - v0.1)),(v6.2.1,(v6.2.2.1,())))))
  (ai e7 ak).bind fun v8=>
  (idx v8 t2).bind fun _=>
  (ai e7 ak).bind fun v9=>
  (v9[t2.toNat]?).bind fun v10=>
  let U8:H1:=(ik e7 ak (v9.set t2.toNat (v10.1,(r3,(v10.2.2.1,())))))
  zZ last t (IntKind.wrap .i64 (t2+1)) c c2 t3 t4 out ak U8
 else
  z6 last last c c2 t3 t4 out ak hp1
theorem xU (last t t2 c c2 t3 t4 out ak hp1):jG last t t2 c c2 t3 t4 out ak hp1=tl jG im gr pj nc last t t2 c c2 t3 t4 out ak hp1:=(l1 18 0 _).trans (by kernel_rfl)
def HD (RH:af sO)(last:Int)(k:Int)(c:Int)(c2:xP)(t:Int)(t2:Nat)(out:Int)(ak:Nat)(hp1:H1):Option (mJ×Int):=
 bif (decide (k≥0)) then
  (idx c2 k).bind fun v0=>
  RH last k v0.2.2.1 (v0.2.2.1.length:Int) 0 c c2 t t2 out ak hp1
 else
  (PS (typed (hs [] hp1 [] [] [] [] [] [] [] [] []) yH (.rv (.agg [⟨.int .i64,out⟩,⟨.ref 1,ak⟩]))) (some 0)).bind fun v1=>
  some v1
theorem PX (last k c c2 t t2 out ak hp1):im last k c c2 t t2 out ak hp1=HD sO last k c c2 t t2 out ak hp1:=(l1 18 1 _).trans (by kernel_rfl)
def HE (nr:af fa)(z6:af im)(last:Int)(k:Int)(t:dk)(t2:Int)(t3:Int)(c:Int)(c2:xP)(t4:Int)(t5:Nat)(out:Int)(ak:Nat)(hp1:H1):Option (mJ×Int):=
 bif (decide (t3<t2)) then
  (idx t t3).bind fun v0=>
  (ai hp1 ak).bind fun v1=>
  (idx v1 (IntKind.wrap .i64 (last - v0.1))).bind fun _=>
  (ai hp1 ak).bind fun v2=>
  (v2[(IntKind.wrap .i64 (last - v0.1)).toNat]?).bind fun v3=>
  let e4:dk:=([((IntKind.wrap .i64 (last - k)),(v0.2.1,()))]:dk)
  (ai ([]:H2) v3.2.2.1).bind fun v5=>
  bif (aG 16 2 v5.length 1) then
  let e6:H2:=((dh ([]:H2) v3.2.2.1)++[some (v5++e4)])
  let e7:Nat:=((dh ([]:H2) v3.2.2.1).length+1:Nat)
  (ai hp1 ak).bind fun v8=>
  (v8[(IntKind.wrap .i64 (last - v0.1)).toNat]?).bind fun v9=>
  let ZQ:H1:=(ik hp1 ak (v8.set (IntKind.wrap .i64 (last - v0.1)).toNat (v9.1,(v9.2.1,(e7,())))))
  nr last k t t2 (IntKind.wrap .i64 (t3+1)) c c2 t4 t5 out ak ZQ e6
  else none
 else
  z6 last (IntKind.wrap .i64 (k - 1)) c c2 t4 t5 out ak hp1
theorem PY (last k t t2 t3 c c2 t4 t5 out ak hp1):sO last k t t2 t3 c c2 t4 t5 out ak hp1=HE fa im last k t t2 t3 c c2 t4 t5 out ak hp1:=(l1 18 2 _).trans (by kernel_rfl)
def rG (nr:af fa)(PZ:af iJ)(last:Int)(k:Int)(t:dk)(t2:Int)(t3:Int)(c:Int)(c2:xP)(t4:Int)(t5:Nat)(out:Int)(ak:Nat)(hp1:H1)(hp2:H2):Option (mJ×Int):=
 bif (decide (t3<t2)) then
  (idx t t3).bind fun v0=>
  (ai hp1 ak).bind fun v1=>
  (idx v1 (IntKind.wrap .i64 (last - v0.1))).bind fun _=>
  (ai hp1 ak).bind fun v2=>
  (v2[(IntKind.wrap .i64 (last - v0.1)).toNat]?).bind fun v3=>
  let e4:dk:=([((IntKind.wrap .i64 (last - k)),(v0.2.1,()))]:dk)
  (ai hp2 v3.2.2.1).bind fun v5=>
  bif (aG 16 2 v5.length 1) then
  (ai hp1 ak).bind fun v6=>
  (v6[(IntKind.wrap .i64 (last - v0.1)).toNat]?).bind fun v7=>
  let e8:H1:=(ik hp1 ak (v6.set (IntKind.wrap .i64 (last - v0.1)).toNat (v7.1,(v7.2.1,(((dh hp2 v3.2.2.1).length+1:Nat),())))))
  nr last k t t2 (IntKind.wrap .i64 (t3+1)) c c2 t4 t5 out ak e8 ((dh hp2 v3.2.2.1)++[some (v5++e4)])
  else none
 else
  PZ last (IntKind.wrap .i64 (k - 1)) c c2 t4 t5 out ak hp1 hp2
theorem vA (last k t t2 t3 c c2 t4 t5 out ak hp1 hp2):fa last k t t2 t3 c c2 t4 t5 out ak hp1 hp2=rG fa iJ last k t t2 t3 c c2 t4 t5 out ak hp1 hp2:=(l1 18 2 _).trans (by kernel_rfl)
def rH (nr:af fa)(last:Int)(k:Int)(c:Int)(c2:xP)(t:Int)(t2:Nat)(out:Int)(ak:Nat)(hp1:H1)(hp2:H2):Option (mJ×Int):=
 bif (decide (k≥0)) then
  (idx c2 k).bind fun v0=>
  nr last k v0.2.2.1 (v0.2.2.1.length:Int) 0 c c2 t t2 out ak hp1 hp2
 else
  (PS (typed (hs [] hp1 hp2 [] [] [] [] [] [] [] []) yH (.rv (.agg [⟨.int .i64,out⟩,⟨.ref 1,ak⟩]))) (some 0)).bind fun v1=>
  some v1
theorem vB (last k c c2 t t2 out ak hp1 hp2):iJ last k c c2 t t2 out ak hp1 hp2=rH fa last k c c2 t t2 out ak hp1 hp2:=(l1 18 1 _).trans (by kernel_rfl)
def GW (zZ:af jG)(sU:af jI)(c:mJ):Option (mJ×Int):=
 (sU (c.1,(c.2.1,()))).bind fun r0=>
 bif (r0 != 0) then
  (PS (typed h0 yH (.rv (.agg [⟨.int .i64,(0:Int)⟩,⟨.ref 0,(0:Nat)⟩]))) (some r0)).bind fun v1=>
  some v1
 else
  let e2:Int:=(IntKind.wrap .i64 ((c.2.1.length:Int) - 1))
  bif (je 48 (c.2.1.length:Int) (c.2.1.length:Int)) then
  let e3:H1:=(([]:H1)++[some (List.replicate (c.2.1.length:Int).toNat (0,(ByteArray.empty,((0:Nat),()))))])
  let e4:Nat:=(([]:H1).length+1:Nat)
  (ai e3 e4).bind fun v5=>
  zZ e2 (v5.length:Int) 0 c.1 c.2.1 0 (0:Nat) c.1 e4 e3
  else none
theorem LM (c):qD c=GW jG jI c:=(e1 18 _).trans (by kernel_rfl)
def xV (RI:af mq)(c:mJ):Option (dk×Gl×Int):=
 (RI (c.1,(c.2.1,())) ([]:H2)).bind fun r0=>
 (PS (typed (hs [] [] [] r0.2 [] [] [] [] [] [] []) (.slice (.st yT)) (.rv (.cv ⟨.ref 3,r0.1.1⟩))) (PS (some (r0.1.2.1.1,(r0.1.2.1.2.1,()))) (some r0.1.2.2))).bind fun v1=>
 some v1
theorem DE (c):fO c=xV mq c:=(e1 20 _).trans (by kernel_rfl)
def Ez (P0:af kh)(c:mJ):Option (dk×Gl×Int):=
 (P0 (c.1,(c.2.1,())) ([]:H2)).bind fun r0=>
 (PS (typed (hs [] [] [] r0.2 [] [] [] [] [] [] []) (.slice (.st yT)) (.rv (.cv ⟨.ref 3,r0.1.1⟩))) (PS (some (r0.1.2.1.1,(r0.1.2.1.2.1,()))) (some r0.1.2.2))).bind fun v1=>
 some v1
theorem Jf (c):lK c=Ez kh c:=(e1 24 _).trans (by kernel_rfl)
def kF (kG:af b4)(Oe:af slices_SortFunc)(l:Nat)(last:Int)(t:Nat)(t2:Int)(t3:Int)(t4:Int)(t5:Int)(w:Int)(w2:Int)(bh:H2):Option (dk×Gl×Int):=
 bif (decide (t3<t2)) then
  (ai bh t).bind fun v0=>
  (idx v0 t3).bind fun _=>
  (ai bh t).bind fun v1=>
  (v1[t3.toNat]?).bind fun v2=>
  (ai bh l).bind fun v3=>
  (idx v3 t3).bind fun _=>
  (ai bh l).bind fun v4=>
  (v4[t3.toNat]?).bind fun v5=>
  let e6:H2:=(ik bh l (v4.set t3.toNat ((IntKind.wrap .i64 (last - v2.2.1)),((IntKind.wrap .i64 (last - v2.1)),()))))
  bif (decide (v2.2.1<0)) then
   (ai e6 l).bind fun v7=>
   (idx v7 t3).bind fun _=>
   (ai e6 l).bind fun v8=>
   (v8[t3.toNat]?).bind fun v9=>
   let ZQ:H2:=(ik e6 l (v8.set t3.toNat ((IntKind.wrap .i64 (last - v2.1)),((-1),()))))
   kG l last t t2 (IntKind.wrap .i64 (t3+1)) t4 t5 w w2 ZQ
  else
   kG l last t t2 (IntKind.wrap .i64 (t3+1)) t4 t5 w w2 e6
 else
  (Oe l bh).bind fun r11=>
  (PS (typed (hs [] [] [] r11.2 [] [] [] [] [] [] []) (.slice (.st yT)) (.rv (.cv ⟨.ref 3,l⟩))) (PS (some (w,(w2,()))) (some 0))).bind fun v12=>
  some v12
theorem nW (l last t t2 t3 t4 t5 w w2 bh):b4 l last t t2 t3 t4 t5 w w2 bh=kF b4 slices_SortFunc l last t t2 t3 t4 t5 w w2 bh:=(l1 26 0 _).trans (by kernel_rfl)
def tC (kG:af b4)(GX:af qD)(nX:af cB)(c:mJ):Option (dk×Gl×Int):=
 (GX (c.1,(c.2.1,()))).bind fun r0=>
 bif (r0.2 != 0) then
  some (([]:dk),(0,(0,())),r0.2)
 else
  (nX (r0.1.1,(r0.1.2.1,())) ([]:H2)).bind fun r1=>
  let e2:Int:=(IntKind.wrap .i64 ((c.2.1.length:Int) - 1))
  (ai r1.2 r1.1.1).bind fun v3=>
  kG r1.1.1 e2 r1.1.1 (v3.length:Int) 0 0 0 r1.1.2.1 r1.1.2.2.1 r1.2
theorem Aw (c):fx c=tC b4 qD cB c:=(e1 26 _).trans (by kernel_rfl)
def vC (c:mJ):Option mJ:=
 some (c.1,(c.2.1,()))
theorem BO (c):pc c=vC c:=(e1 196 _).trans (by kernel_rfl)
def ju (nY:af dc)(t:Int)(t2:Int)(trace:List (Int×Unit)):Option (List (Int×Unit)):=
 bif (decide (t2<t)) then
  nY t (IntKind.wrap .i64 (t2+1)) (trace++[(t2,())])
 else
  some trace
theorem ns (t t2 trace):dc t t2 trace=ju dc t t2 trace:=(l1 197 0 _).trans (by kernel_rfl)
def rZ (nY:af dc)(t:mJ):Option (List (Int×Unit)):=
 nY (t.2.1.length:Int) 0 ([]:List (Int×Unit))
theorem zf (t):lS t=rZ dc t:=(e1 197 _).trans (by kernel_rfl)
def tD (c:mJ):Option mJ:=
 some (c.1,(c.2.1,()))
theorem Ax (c):nq c=tD c:=(e1 198 _).trans (by kernel_rfl)
def iZ (i6:af cJ)(d:Int)(t:Int)(t2:xP)(trace:List (Int×Unit)):Option (List (Int×Unit)):=
 bif (decide (d≥0)) then
  i6 d t2 (t2.length:Int) 0 t t2 trace
 else
  some trace
theorem mr (d t t2 trace):bU d t t2 trace=iZ cJ d t t2 trace:=(l1 199 0 _).trans (by kernel_rfl)
def i7 (i6:af cJ)(nt:af bU)(d:Int)(t:xP)(t2:Int)(t3:Int)(t4:Int)(t5:xP)(trace:List (Int×Unit)):Option (List (Int×Unit)):=
 bif (decide (t3<t2)) then
  (idx t t3).bind fun v0=>
  bif (v0.1==d) then
   i6 d t t2 (IntKind.wrap .i64 (t3+1)) t4 t5 (trace++[(t3,())])
  else
   i6 d t t2 (IntKind.wrap .i64 (t3+1)) t4 t5 trace
 else
  nt (IntKind.wrap .i64 (d - 1)) t4 t5 trace
theorem mu (d t t2 t3 t4 t5 trace):cJ d t t2 t3 t4 t5 trace=i7 cJ bU d t t2 t3 t4 t5 trace:=(l1 199 1 _).trans (by kernel_rfl)
def qG (nt:af bU)(t:mJ):Option (List (Int×Unit)):=
 nt 4 t.1 t.2.1 ([]:List (Int×Unit))
theorem w8 (t):kg t=qG bU t:=(e1 199 _).trans (by kernel_rfl)
def z7 (sU:af jI)(Il:af gp)(c:mJ)(bh:H2):Option ((Nat×Gl×Int)×H2):=
 (sU (c.1,(c.2.1,()))).bind fun r0=>
 bif (r0 != 0) then
  some (((0:Nat),(0,(0,())),r0),bh)
 else
  (Il (c.1,(c.2.1,())) bh).bind fun r1=>
  some ((r1.1.1,(r1.1.2.1,(r1.1.2.2.1,())),(0:Int)),r1.2)
theorem Fp (c bh):mq c bh=z7 jI gp c bh:=(e1 100045 _).trans (by kernel_rfl)
def xW (sU:af jI)(nX:af cB)(c:mJ)(bh:H2):Option ((Nat×Gl×Int)×H2):=
 (sU (c.1,(c.2.1,()))).bind fun r0=>
 bif (r0 != 0) then
  some (((0:Nat),(0,(0,())),r0),bh)
 else
  (nX (c.1,(c.2.1,())) bh).bind fun r1=>
  some ((r1.1.1,(r1.1.2.1,(r1.1.2.2.1,())),(0:Int)),r1.2)
theorem DF (c bh):kh c bh=xW jI cB c bh:=(e1 100145 _).trans (by kernel_rfl)
def iq (mv:af cA)(aR:af ao)(Of:af pc)(KT:af lS)(out:Nat)(t:Int)(t2:Int)(row:H2)(bR:List Int)(e:Bool)(c:Int)(c2:xP)(w:Int)(w2:Int)(bh:H2):Option ((Nat×Int×Int×Unit)×H2):=
 bif (decide (t2<t)) then
  (idx bR t2).bind fun _=>
  (bR[t2.toNat]?).bind fun v0=>
  mv out t (IntKind.wrap .i64 (t2+1)) row (bR.set t2.toNat (-2)) e c c2 w w2 bh
 else
  (Of (c,(c2,()))).bind fun r1=>
  (KT (r1.1,(r1.2.1,()))).bind fun r2=>
  aR out out row bR e c c2 w w2 bh r2
theorem lk (out t t2 row bR e c c2 w w2 bh):cA out t t2 row bR e c c2 w w2 bh=iq cA ao pc lS out t t2 row bR e c c2 w w2 bh:=(l1 100046 0 _).trans (by kernel_rfl)
def ir (iu:af bp)(aR:af ao)(iw:af bD)(qH:af lM)(jv:af jh)(out:Nat)(ak:Nat)(row:H2)(bR:List Int)(e:Bool)(c:Int)(c2:xP)(w:Int)(w2:Int)(bh:H2)(rest:List (Int×Unit)):Option ((Nat×Int×Int×Unit)×H2):=
 match rest with
 | []=>iu out (bR.length:Int) 0 bR w w2 bh
 |x0::x0s=>
  bif e then
   (idx row x0.1).bind fun _=>
   (row[x0.1.toNat]?).bind fun v1=>
   bif (!(Option.isNone v1)) then
    aR ak ak row bR e c c2 w (IntKind.wrap .i64 (w2+1)) bh x0s
   else
    (idx c2 x0.1).bind fun v2=>
    (qH v2.2.2.1).bind fun r3=>
    (jv r3).bind fun r4=>
    iw x0.1 r3 r4.1 r4.2 ak row bR e c c2 w w2 bh x0s
  else
   (idx c2 x0.1).bind fun v5=>
   (qH v5.2.2.1).bind fun r6=>
   (jv r6).bind fun r7=>
   iw x0.1 r6 r7.1 r7.2 ak row bR e c c2 w w2 bh x0s
theorem ll (out ak row bR e c c2 w w2 bh rest):ao out ak row bR e c c2 w w2 bh rest=ir bp ao bD lM jh out ak row bR e c c2 w w2 bh rest:=(l1 100046 1 _).trans (by kernel_rfl)
def ix (iu:af bp)(out:Nat)(t:Int)(t2:Int)(t3:List Int)(w:Int)(w2:Int)(bh:H2):Option ((Nat×Int×Int×Unit)×H2):=
 bif (decide (t2<t)) then
  (idx t3 t2).bind fun _=>
  (t3[t2.toNat]?).bind fun v0=>
  bif (decide (v0>(-2))) then
   (ai bh out).bind fun v1=>
   bif (aG 16 2 v1.length 1) then
   let e2:H2:=((dh bh out)++[some (v1++([(t2,(v0,()))]:dk))])
   iu ((dh bh out).length+1:Nat) t (IntKind.wrap .i64 (t2+1)) t3 w w2 e2
   else none
  else
   iu out t (IntKind.wrap .i64 (t2+1)) t3 w w2 bh
 else
  some ((out,(w,(w2,()))),bh)
theorem ln (out t t2 t3 w w2 bh):bp out t t2 t3 w w2 bh=ix bp out t t2 t3 w w2 bh:=(l1 100046 3 _).trans (by kernel_rfl)
def iy (iw:af bD)(aR:af ao)(Mw:af zd)(BP:af sR)(nU:af ji)(jv:af jh)(j:Int)(x:dk)(low:Int)(Z2:Bool)(out:Nat)(row:H2)(bR:List Int)(e:Bool)(c:Int)(c2:xP)(w:Int)(w2:Int)(bh:H2)(rest:List (Int×Unit)):Option ((Nat×Int×Int×Unit)×H2):=
 bif Z2 then
  (idx row low).bind fun _=>
  (row[low.toNat]?).bind fun v0=>
  bif (!(Option.isNone v0)) then
   (idx row low).bind fun _=>
   (row[low.toNat]?).bind fun v1=>
   let e2:Int:=(IntKind.wrap .i64 (((lst v1).length:Int) - 1))
   (idx (lst v1) e2).bind fun v3=>
   (Mw c v3.2.1).bind fun r4=>
   let e5:Int:=(IntKind.wrap .i64 ((x.length:Int) - 1))
   (idx x e5).bind fun v6=>
   let e7:Int:=(IntKind.wrap .i64 ((IntKind.wrap .i64 (0 - v6.2.1))*r4.1))
   (BP c e7).bind fun r8=>
   (nU c x r8 (lst v1)).bind fun r9=>
   (jv r9.1).bind fun NC=>
   iw j r9.1 NC.1 NC.2 out row bR e c c2 (IntKind.wrap .i64 (w+1)) w2 bh rest
  else
   bif Z2 then
    (idx row low).bind fun _=>
    (row[low.toNat]?).bind fun v11=>
    (vh [] (.px (.st yT)) [⟨.slice (.st yT),x⟩]).bind fun v12=>
    (idx bR low).bind fun _=>
    (bR[low.toNat]?).bind fun v13=>
    aR out out (row.set low.toNat v12) (bR.set low.toNat j) e c c2 w w2 bh rest
   else
    (idx bR j).bind fun _=>
    (bR[j.toNat]?).bind fun v14=>
    bif (v14==(-2)) then
     (idx bR j).bind fun _=>
     (bR[j.toNat]?).bind fun v15=>
     aR out out row (bR.set j.toNat (-1)) e c c2 w w2 bh rest
    else
     aR out out row bR e c c2 w w2 bh rest
 else
  bif Z2 then
   (idx row low).bind fun _=>
   (row[low.toNat]?).bind fun v16=>
   (vh [] (.px (.st yT)) [⟨.slice (.st yT),x⟩]).bind fun v17=>
   (idx bR low).bind fun _=>
   (bR[low.toNat]?).bind fun v18=>
   aR out out (row.set low.toNat v17) (bR.set low.toNat j) e c c2 w w2 bh rest
  else
   (idx bR j).bind fun _=>
   (bR[j.toNat]?).bind fun v19=>
   bif (v19==(-2)) then
    (idx bR j).bind fun _=>
    (bR[j.toNat]?).bind fun v20=>
    aR out out row (bR.set j.toNat (-1)) e c c2 w w2 bh rest
   else
    aR out out row bR e c c2 w w2 bh rest
theorem lq (j x low Z2 out row bR e c c2 w w2 bh rest):bD j x low Z2 out row bR e c c2 w w2 bh rest=iy bD ao zd sR ji jh j x low Z2 out row bR e c c2 w w2 bh rest:=(l1 100046 2 _).trans (by kernel_rfl)
def py (mv:af cA)(c:mJ)(bh:H2):Option ((Nat×Int×Int×Unit)×H2):=
 bif (je 24 (c.2.1.length:Int) (c.2.1.length:Int)) then
 let e0:H2:=(List.replicate (c.2.1.length:Int).toNat (none:Option dk))
 bif (je 8 (c.2.1.length:Int) (c.2.1.length:Int)) then
 let e1:List Int:=(List.replicate (c.2.1.length:Int).toNat 0)
 mv (0:Nat) (e1.length:Int) 0 e0 e1 false c.1 c.2.1 0 0 bh
 else none
 else none
theorem vD (c bh):gp c bh=py cA c bh:=(e1 100046 _).trans (by kernel_rfl)
def gE (lr:af bW)(aN:af ah)(My:af nq)(Jg:af kg)(out:Nat)(t:Int)(t2:Int)(row:H2)(bR:List Int)(e:Bool)(c:Int)(c2:xP)(w:Int)(w2:Int)(bh:H2):Option ((Nat×Int×Int×Unit)×H2):=
 bif (decide (t2<t)) then
  (idx bR t2).bind fun _=>
  (bR[t2.toNat]?).bind fun v0=>
  lr out t (IntKind.wrap .i64 (t2+1)) row (bR.set t2.toNat (-2)) e c c2 w w2 bh
 else
  (My (c,(c2,()))).bind fun r1=>
  (Jg (r1.1,(r1.2.1,()))).bind fun r2=>
  aN out out row bR e c c2 w w2 bh r2
theorem ki (out t t2 row bR e c c2 w w2 bh):bW out t t2 row bR e c c2 w w2 bh=gE bW ah nq kg out t t2 row bR e c c2 w w2 bh:=(l1 100146 0 _).trans (by kernel_rfl)
def gF (gG:af bu)(aN:af ah)(gH:af bw)(qH:af lM)(jv:af jh)(out:Nat)(ak:Nat)(row:H2)(bR:List Int)(e:Bool)(c:Int)(c2:xP)(w:Int)(w2:Int)(bh:H2)(rest:List (Int×Unit)):Option ((Nat×Int×Int×Unit)×H2):=
 match rest with
 | []=>gG out (bR.length:Int) 0 bR w w2 bh
 |x0::x0s=>
  bif e then
   (idx row x0.1).bind fun _=>
   (row[x0.1.toNat]?).bind fun v1=>
   bif (!(Option.isNone v1)) then
    aN ak ak row bR e c c2 w (IntKind.wrap .i64 (w2+1)) bh x0s
   else
    (idx c2 x0.1).bind fun v2=>
    (qH v2.2.2.1).bind fun r3=>
    (jv r3).bind fun r4=>
    gH x0.1 r3 r4.1 r4.2 ak row bR e c c2 w w2 bh x0s
  else
   (idx c2 x0.1).bind fun v5=>
   (qH v5.2.2.1).bind fun r6=>
   (jv r6).bind fun r7=>
   gH x0.1 r6 r7.1 r7.2 ak row bR e c c2 w w2 bh x0s
theorem kj (out ak row bR e c c2 w w2 bh rest):ah out ak row bR e c c2 w w2 bh rest=gF bu ah bw lM jh out ak row bR e c c2 w w2 bh rest:=(l1 100146 1 _).trans (by kernel_rfl)
def gI (gG:af bu)(out:Nat)(t:Int)(t2:Int)(t3:List Int)(w:Int)(w2:Int)(bh:H2):Option ((Nat×Int×Int×Unit)×H2):=
 bif (decide (t2<t)) then
  (idx t3 t2).bind fun _=>
  (t3[t2.toNat]?).bind fun v0=>
  bif (decide (v0>(-2))) then
   (ai bh out).bind fun v1=>
   bif (aG 16 2 v1.length 1) then
   let e2:H2:=((dh bh out)++[some (v1++([(t2,(v0,()))]:dk))])
   gG ((dh bh out).length+1:Nat) t (IntKind.wrap .i64 (t2+1)) t3 w w2 e2
   else none
  else
   gG out t (IntKind.wrap .i64 (t2+1)) t3 w w2 bh
 else
  some ((out,(w,(w2,()))),bh)
theorem kl (out t t2 t3 w w2 bh):bu out t t2 t3 w w2 bh=gI bu out t t2 t3 w w2 bh:=(l1 100146 3 _).trans (by kernel_rfl)
def gJ (gH:af bw)(aN:af ah)(Mw:af zd)(BP:af sR)(nU:af ji)(jv:af jh)(j:Int)(x:dk)(low:Int)(Z2:Bool)(out:Nat)(row:H2)(bR:List Int)(e:Bool)(c:Int)(c2:xP)(w:Int)(w2:Int)(bh:H2)(rest:List (Int×Unit)):Option ((Nat×Int×Int×Unit)×H2):=
 bif Z2 then
  (idx row low).bind fun _=>
  (row[low.toNat]?).bind fun v0=>
  bif (!(Option.isNone v0)) then
   (idx row low).bind fun _=>
   (row[low.toNat]?).bind fun v1=>
   let e2:Int:=(IntKind.wrap .i64 (((lst v1).length:Int) - 1))
   (idx (lst v1) e2).bind fun v3=>
   (Mw c v3.2.1).bind fun r4=>
   let e5:Int:=(IntKind.wrap .i64 ((x.length:Int) - 1))
   (idx x e5).bind fun v6=>
   let e7:Int:=(IntKind.wrap .i64 ((IntKind.wrap .i64 (0 - v6.2.1))*r4.1))
   (BP c e7).bind fun r8=>
   (nU c x r8 (lst v1)).bind fun r9=>
   (jv r9.1).bind fun NC=>
   gH j r9.1 NC.1 NC.2 out row bR e c c2 (IntKind.wrap .i64 (w+1)) w2 bh rest
  else
   bif Z2 then
    (idx row low).bind fun _=>
    (row[low.toNat]?).bind fun v11=>
    (vh [] (.px (.st yT)) [⟨.slice (.st yT),x⟩]).bind fun v12=>
    (idx bR low).bind fun _=>
    (bR[low.toNat]?).bind fun v13=>
    aN out out (row.set low.toNat v12) (bR.set low.toNat j) e c c2 w w2 bh rest
   else
    (idx bR j).bind fun _=>
    (bR[j.toNat]?).bind fun v14=>
    bif (v14==(-2)) then
     (idx bR j).bind fun _=>
     (bR[j.toNat]?).bind fun v15=>
     aN out out row (bR.set j.toNat (-1)) e c c2 w w2 bh rest
    else
     aN out out row bR e c c2 w w2 bh rest
 else
  bif Z2 then
   (idx row low).bind fun _=>
   (row[low.toNat]?).bind fun v16=>
   (vh [] (.px (.st yT)) [⟨.slice (.st yT),x⟩]).bind fun v17=>
   (idx bR low).bind fun _=>
   (bR[low.toNat]?).bind fun v18=>
   aN out out (row.set low.toNat v17) (bR.set low.toNat j) e c c2 w w2 bh rest
  else
   (idx bR j).bind fun _=>
   (bR[j.toNat]?).bind fun v19=>
   bif (v19==(-2)) then
    (idx bR j).bind fun _=>
    (bR[j.toNat]?).bind fun v20=>
    aN out out row (bR.set j.toNat (-1)) e c c2 w w2 bh rest
   else
    aN out out row bR e c c2 w w2 bh rest
theorem km (j x low Z2 out row bR e c c2 w w2 bh rest):bw j x low Z2 out row bR e c c2 w w2 bh rest=gJ bw ah zd sR ji jh j x low Z2 out row bR e c c2 w w2 bh rest:=(l1 100146 2 _).trans (by kernel_rfl)
def nZ (lr:af bW)(c:mJ)(bh:H2):Option ((Nat×Int×Int×Unit)×H2):=
 bif (je 24 (c.2.1.length:Int) (c.2.1.length:Int)) then
 let e0:H2:=(List.replicate (c.2.1.length:Int).toNat (none:Option dk))
 bif (je 8 (c.2.1.length:Int) (c.2.1.length:Int)) then
 let e1:List Int:=(List.replicate (c.2.1.length:Int).toNat 0)
 lr (0:Nat) (e1.length:Int) 0 e0 e1 true c.1 c.2.1 0 0 bh
 else none
 else none
theorem uD (c bh):cB c bh=nZ bW c bh:=(e1 100146 _).trans (by kernel_rfl)
end
noncomputable section
def qn (qo:af gu)(p:Int)(c:dk)(t:dk)(t2:Int)(t3:Int):Option (Int):=
 bif (decide (t3<t2)) then
  (idx t t3).bind fun v0=>
  bif (decide (v0.1<0)) then
   some 1
  else
   bif (decide (v0.1≥1024)) then
    some 1
   else
    bif (decide (v0.2.1<1)) then
     some 1
    else
     bif (decide (v0.2.1≥p)) then
      some 1
     else
      bif (decide (t3>0)) then
       (idx c (IntKind.wrap .i64 (t3 - 1))).bind fun v1=>
       bif (decide (v0.1≤v1.1)) then
        some 6
       else
        qo p c t t2 (IntKind.wrap .i64 (t3+1))
      else
       qo p c t t2 (IntKind.wrap .i64 (t3+1))
 else
  some 0
theorem tF (p c t t2 t3):gu p c t t2 t3=qn gu p c t t2 t3:=(l1 69 0 _).trans (by kernel_rfl)
def BQ (qo:af gu)(vw:af mo)(p:Int)(c:dk):Option (Int):=
 (vw p).bind fun r0=>
 bif (!r0) then
  some 8
 else
  qo p c c (c.length:Int) 0
theorem HF (p c):lL p c=BQ gu mo p c:=(e1 69 _).trans (by kernel_rfl)
def GY (c:dk):Option (Int×Bool):=
 bif ((c.length:Int)==0) then
  some (0,false)
 else
  let e0:Int:=(IntKind.wrap .i64 ((c.length:Int) - 1))
  (idx c e0).bind fun v1=>
  some (v1.1,true)
theorem LN (c):jh c=GY c:=(e1 85 _).trans (by kernel_rfl)
def GZ (Oh:af pa)(BP:af sR)(Vf:af uA)(p:Int)(a:dk)(k:Int)(b:dk):Option (dk×Int):=
 (Oh p ([a,b]:List dk)).bind fun r0=>
 bif (r0 != 0) then
  some (([]:dk),r0)
 else
  (BP p k).bind fun r1=>
  (Vf p a r1 b).bind fun r2=>
  some (r2,(0:Int))
theorem LO (p a k b):ji p a k b=GZ pa sR uA p a k b:=(e1 87 _).trans (by kernel_rfl)
def iQ (qI:af fm)(BN:af lL)(p:Int)(t:List dk)(t2:Int)(t3:Int):Option (Int):=
 bif (decide (t3<t2)) then
  (idx t t3).bind fun v0=>
  (BN p v0).bind fun r1=>
  bif (r1 != 0) then
   some r1
  else
   qI p t t2 (IntKind.wrap .i64 (t3+1))
 else
  some 0
theorem kH (p t t2 t3):fm p t t2 t3=iQ fm lL p t t2 t3:=(l1 122 0 _).trans (by kernel_rfl)
def vE (qI:af fm)(p:Int)(l:List dk):Option (Int):=
 qI p l (l.length:Int) 0
theorem BR (p l):pa p l=vE fm p l:=(e1 122 _).trans (by kernel_rfl)
def rI (rJ:af iM)(row:dk)(p:Int)(k:Int)(rest:List (Int×Gl×Unit)):Option dk:=
 match rest with
 | []=>some row
 |x0::x0s=>
  let e1:Int:=(IntKind.wrap .i64 (x0.2.1.1+(IntKind.wrap .i64 (k*x0.2.1.2.1))))
  bif (!(p==0)) then
  bif ((e1.tmod p) != 0) then
   let e2:dk:=([(x0.1,((e1.tmod p),()))]:dk)
   bif (aG 16 2 row.length 1) then
   rJ (row++e2) p k x0s
   else none
  else
   rJ row p k x0s
  else none
theorem vF (row p k rest):iM row p k rest=rI iM row p k rest:=(l1 123 0 _).trans (by kernel_rfl)
def EA (rJ:af iM)(RJ:af sS)(Oi:af pb)(p:Int)(a:dk)(k:Int)(b:dk):Option dk:=
 (RJ a b).bind fun r0=>
 (Oi r0.1 r0.2).bind fun r1=>
 rJ ([]:dk) p k r1
theorem Jh (p a k b):uA p a k b=EA iM sS pb p a k b:=(e1 123 _).trans (by kernel_rfl)
def z8 (a:dk)(b:dk):Option (dk×dk):=
 some (a,b)
theorem Fq (a b):sS a b=z8 a b:=(e1 155 _).trans (by kernel_rfl)
def dd (aw:af dW)(t:dk)(t2:dk)(trace:List (Int×Gl×Unit)):Option (List (Int×Gl×Unit)):=
 bif (decide ((t.length:Int)>0)) then
  bif ((t2.length:Int)==0) then
   (idx t 0).bind fun v0=>
   (idx t 0).bind fun v1=>
   bif (di t.length 1 (t.length:Int)) then
   let e2:List (Int×Gl×Unit):=(trace++[(v0.1,((v1.2.1,(0,())),()))])
   aw (cut t 1 (t.length:Int)) t2 e2
   else none
  else
   bif (decide ((t.length:Int)>0)) then
    (idx t 0).bind fun v3=>
    (idx t2 0).bind fun v4=>
    bif (decide (v3.1<v4.1)) then
     (idx t 0).bind fun v5=>
     (idx t 0).bind fun v6=>
     bif (di t.length 1 (t.length:Int)) then
     let e7:List (Int×Gl×Unit):=(trace++[(v5.1,((v6.2.1,(0,())),()))])
     aw (cut t 1 (t.length:Int)) t2 e7
     else none
    else
     bif ((t.length:Int)==0) then
      (idx t2 0).bind fun v8=>
      (idx t2 0).bind fun v9=>
      bif (di t2.length 1 (t2.length:Int)) then
      let ZQ:List (Int×Gl×Unit):=(trace++[(v8.1,((0,(v9.2.1,())),()))])
      aw t (cut t2 1 (t2.length:Int)) ZQ
      else none
     else
      (idx t2 0).bind fun v11=>
      (idx t 0).bind fun v12=>
      bif (decide (v11.1<v12.1)) then
       (idx t2 0).bind fun v13=>
       (idx t2 0).bind fun v14=>
       bif (di t2.length 1 (t2.length:Int)) then
       let e15:List (Int×Gl×Unit):=(trace++[(v13.1,((0,(v14.2.1,())),()))])
       aw t (cut t2 1 (t2.length:Int)) e15
       else none
      else
       (idx t 0).bind fun v16=>
       (idx t 0).bind fun v17=>
       (idx t2 0).bind fun v18=>
       bif (di t.length 1 (t.length:Int)) then
       bif (di t2.length 1 (t2.length:Int)) then
       let e19:List (Int×Gl×Unit):=(trace++[(v16.1,((v17.2.1,(v18.2.1,())),()))])
       aw (cut t 1 (t.length:Int)) (cut t2 1 (t2.length:Int)) e19
       else none
       else none
   else
    bif ((t.length:Int)==0) then
     (idx t2 0).bind fun v20=>
     (idx t2 0).bind fun v21=>
     bif (di t2.length 1 (t2.length:Int)) then
     let e22:List (Int×Gl×Unit):=(trace++[(v20.1,((0,(v21.2.1,())),()))])
     aw t (cut t2 1 (t2.length:Int)) e22
     else none
    else
     (idx t2 0).bind fun v23=>
     (idx t 0).bind fun v24=>
     bif (decide (v23.1<v24.1)) then
      (idx t2 0).bind fun v25=>
      (idx t2 0).bind fun v26=>
      bif (di t2.length 1 (t2.length:Int)) then
      let e27:List (Int×Gl×Unit):=(trace++[(v25.1,((0,(v26.2.1,())),()))])
      aw t (cut t2 1 (t2.length:Int)) e27
      else none
     else
      (idx t 0).bind fun v28=>
      (idx t 0).bind fun v29=>
      (idx t2 0).bind fun v30=>
      bif (di t.length 1 (t.length:Int)) then
      bif (di t2.length 1 (t2.length:Int)) then
      let e31:List (Int×Gl×Unit):=(trace++[(v28.1,((v29.2.1,(v30.2.1,())),()))])
      aw (cut t 1 (t.length:Int)) (cut t2 1 (t2.length:Int)) e31
      else none
      else none
 else
  bif (decide ((t2.length:Int)>0)) then
   bif ((t2.length:Int)==0) then
    (idx t 0).bind fun v32=>
    (idx t 0).bind fun v33=>
    bif (di t.length 1 (t.length:Int)) then
    let e34:List (Int×Gl×Unit):=(trace++[(v32.1,((v33.2.1,(0,())),()))])
    aw (cut t 1 (t.length:Int)) t2 e34
    else none
   else
    bif (decide ((t.length:Int)>0)) then
     (idx t 0).bind fun v35=>
     (idx t2 0).bind fun v36=>
     bif (decide (v35.1<v36.1)) then
      (idx t 0).bind fun v37=>
      (idx t 0).bind fun v38=>
      bif (di t.length 1 (t.length:Int)) then
      let e39:List (Int×Gl×Unit):=(trace++[(v37.1,((v38.2.1,(0,())),()))])
      aw (cut t 1 (t.length:Int)) t2 e39
      else none
     else
      bif ((t.length:Int)==0) then
       (idx t2 0).bind fun v40=>
       (idx t2 0).bind fun v41=>
       bif (di t2.length 1 (t2.length:Int)) then
       let e42:List (Int×Gl×Unit):=(trace++[(v40.1,((0,(v41.2.1,())),()))])
       aw t (cut t2 1 (t2.length:Int)) e42
       else none
      else
       (idx t2 0).bind fun v43=>
       (idx t 0).bind fun v44=>
       bif (decide (v43.1<v44.1)) then
        (idx t2 0).bind fun v45=>
        (idx t2 0).bind fun v46=>
        bif (di t2.length 1 (t2.length:Int)) then
        let e47:List (Int×Gl×Unit):=(trace++[(v45.1,((0,(v46.2.1,())),()))])
        aw t (cut t2 1 (t2.length:Int)) e47
        else none
       else
        (idx t 0).bind fun v48=>
        (idx t 0).bind fun v49=>
        (idx t2 0).bind fun v50=>
        bif (di t.length 1 (t.length:Int)) then
        bif (di t2.length 1 (t2.length:Int)) then
        let e51:List (Int×Gl×Unit):=(trace++[(v48.1,((v49.2.1,(v50.2.1,())),()))])
        aw (cut t 1 (t.length:Int)) (cut t2 1 (t2.length:Int)) e51
        else none
        else none
    else
     bif ((t.length:Int)==0) then
      (idx t2 0).bind fun v52=>
      (idx t2 0).bind fun v53=>
      bif (di t2.length 1 (t2.length:Int)) then
      let e54:List (Int×Gl×Unit):=(trace++[(v52.1,((0,(v53.2.1,())),()))])
      aw t (cut t2 1 (t2.length:Int)) e54
      else none
     else
      (idx t2 0).bind fun v55=>
      (idx t 0).bind fun v56=>
      bif (decide (v55.1<v56.1)) then
       (idx t2 0).bind fun v57=>
       (idx t2 0).bind fun v58=>
       bif (di t2.length 1 (t2.length:Int)) then
       let e59:List (Int×Gl×Unit):=(trace++[(v57.1,((0,(v58.2.1,())),()))])
       aw t (cut t2 1 (t2.length:Int)) e59
       else none
      else
       (idx t 0).bind fun v60=>
       (idx t 0).bind fun v61=>
       (idx t2 0).bind fun v62=>
       bif (di t.length 1 (t.length:Int)) then
       bif (di t2.length 1 (t2.length:Int)) then
       let e63:List (Int×Gl×Unit):=(trace++[(v60.1,((v61.2.1,(v62.2.1,())),()))])
       aw (cut t 1 (t.length:Int)) (cut t2 1 (t2.length:Int)) e63
       else none
       else none
  else
   some trace
theorem dE (t t2 trace):dW t t2 trace=dd dW t t2 trace:=(l1 171 0 _).trans (by kernel_rfl)
def vG (aw:af dW)(t:dk)(t2:dk):Option (List (Int×Gl×Unit)):=
 aw t t2 ([]:List (Int×Gl×Unit))
theorem BS (t t2):pb t t2=vG dW t t2:=(e1 171 _).trans (by kernel_rfl)
end
noncomputable section
def tn (pd:af jJ)(p:Int)(t:Int):Option (Bool):=
 bif (decide (t<16)) then
  bif (decide (t>1)) then
   bif (!(t==0)) then
   bif ((p.tmod t)==0) then
    bif (p != t) then
     some false
    else
     pd p (IntKind.wrap .i64 (t+1))
   else
    pd p (IntKind.wrap .i64 (t+1))
   else none
  else
   pd p (IntKind.wrap .i64 (t+1))
 else
  bif (decide (p>1)) then
   some (decide (p≤251))
  else
   some false
theorem xX (p t):jJ p t=tn jJ p t:=(l1 67 0 _).trans (by kernel_rfl)
def G0 (pd:af jJ)(p:Int):Option (Bool):=
 pd p 0
theorem LP (p):mo p=G0 jJ p:=(e1 67 _).trans (by kernel_rfl)
def Mz (P1:af GV)(lU:af eg)(Ji:af ke)(p:Int)(a:Int):Option (Int×Int):=
 (P1 p).bind fun r0=>
 bif (r0.2 != 0) then
  some (0,r0.2)
 else
  (lU r0.1 a).bind fun r1=>
  bif (r1==0) then
   some (0,(9:Int))
  else
   (Ji r0.1 a).bind fun r2=>
   some (r2,(0:Int))
theorem Q0 (p a):zd p a=Mz GV eg ke p a:=(e1 86 _).trans (by kernel_rfl)
def MA (P1:af GV)(lU:af eg)(p:Int)(a:Int):Option (Int):=
 (P1 p).bind fun r0=>
 bif (r0.2 != 0) then
  some 0
 else
  (lU r0.1 a).bind fun r1=>
  some r1
theorem Q1 (p a):sR p a=MA GV eg p a:=(e1 88 _).trans (by kernel_rfl)
def KB (vw:af mo)(p:Int):Option (Int×Int):=
 (vw p).bind fun r0=>
 bif (!r0) then
  some (0,(8:Int))
 else
  some (p,(0:Int))
theorem MB (p):GV p=KB mo p:=(e1 119 _).trans (by kernel_rfl)
def vH (f:Int)(a:Int):Option (Int):=
 bif (!(f==0)) then
 bif (!(f==0)) then
 some ((IntKind.wrap .i64 ((a.tmod f)+f)).tmod f)
 else none
 else none
theorem BT (f a):eg f a=vH f a:=(e1 120 _).trans (by kernel_rfl)
def qJ (MC:af nk)(f:Int)(a:Int):Option (Int):=
 (MC f a (IntKind.wrap .i64 (f - 2))).bind fun r0=>
 some r0
theorem w9 (f a):ke f a=qJ nk f a:=(e1 121 _).trans (by kernel_rfl)
def pz (kI:af dA)(f:Int)(n:Int)(out:Int)(base:Int):Option (Int):=
 bif (decide (n>0)) then
  bif ((n.tmod 2)==1) then
   bif (!(f==0)) then
   bif (!(f==0)) then
   kI f (IntKind.wrap .i64 (n.tdiv 2)) ((IntKind.wrap .i64 (out*base)).tmod f) ((IntKind.wrap .i64 (base*base)).tmod f)
   else none
   else none
  else
   bif (!(f==0)) then
   kI f (IntKind.wrap .i64 (n.tdiv 2)) out ((IntKind.wrap .i64 (base*base)).tmod f)
   else none
 else
  some out
theorem vI (f n out base):dA f n out base=pz dA f n out base:=(l1 154 0 _).trans (by kernel_rfl)
def tG (kI:af dA)(lU:af eg)(f:Int)(a:Int)(n:Int):Option (Int):=
 (lU f a).bind fun r0=>
 kI f n 1 r0
theorem Ay (f a n):nk f a n=tG dA eg f a n:=(e1 154 _).trans (by kernel_rfl)
end
noncomputable section
def yz (Vg:af uy)(TS:af Fh)(sV:af xQ)(xY:af iL)(lF:af fK)(RK:af pn)(a:ByteArray):Option (((Bool×(List Int)×Unit)×(Bool×(List Int)×Unit)×Unit)×Bool):=
 (Vg a (bs [47])).bind fun r0=>
 (TS r0.1).bind fun r1=>
 bif (!r1.2) then
  (sV 1).bind fun r2=>
  some (((r1.1.1,(r1.1.2.1,())),((r2.1,(r2.2.1,())),())),r1.2)
 else
  bif (!r0.2.2) then
   (sV 1).bind fun r3=>
   some (((r1.1.1,(r1.1.2.1,())),((r3.1,(r3.2.1,())),())),r1.2)
  else
   (TS r0.2.1).bind fun r4=>
   bif (!r4.2) then
    some (((false,(([]:List Int),())),((false,(([]:List Int),())),())),false)
   else
    (xY (r1.1.1,(r1.1.2.1,()))).bind fun r5=>
    bif (r5==0) then
     some (((false,(([]:List Int),())),((false,(([]:List Int),())),())),false)
    else
     (sV 1).bind fun r6=>
     (lF (r4.1.1,(r4.1.2.1,())) (r6.1,(r6.2.1,()))).bind fun r7=>
     bif (decide (r7≤0)) then
      some (((false,(([]:List Int),())),((false,(([]:List Int),())),())),false)
     else
      (RK (r1.1.1,(r1.1.2.1,())) (r4.1.1,(r4.1.2.1,()))).bind fun r8=>
      (sV 1).bind fun r9=>
      (lF (r8.1,(r8.2.1,())) (r9.1,(r9.2.1,()))).bind fun NC=>
      bif (NC != 0) then
       some (((false,(([]:List Int),())),((false,(([]:List Int),())),())),false)
      else
       some (((r1.1.1,(r1.1.2.1,())),((r4.1.1,(r4.1.2.1,())),())),true)
theorem BU (a):gr a=yz uy Fh xQ iL fK pn a:=(e1 42 _).trans (by kernel_rfl)
def Aa (RL:af po)(a:(Bool×(List Int)×Unit)×(Bool×(List Int)×Unit)×Unit):Option ((Bool×(List Int)×Unit)×(Bool×(List Int)×Unit)×Unit):=
 (RL (a.1.1,(a.1.2.1,()))).bind fun r0=>
 some ((r0.1,(r0.2.1,())),((a.2.1.1,(a.2.1.2.1,())),()))
theorem Fs (a):pj a=Aa po a:=(e1 43 _).trans (by kernel_rfl)
def xZ (tp:af jL)(sV:af xQ)(lF:af fK)(yc:af ng)(a:(Bool×(List Int)×Unit)×(Bool×(List Int)×Unit)×Unit):Option (ByteArray):=
 (tp ((a.1.1,(a.1.2.1,())),((a.2.1.1,(a.2.1.2.1,())),()))).bind fun r0=>
 (sV 1).bind fun r1=>
 (lF (r0.1,(r0.2.1,())) (r1.1,(r1.2.1,()))).bind fun r2=>
 bif (r2 != 0) then
  (yc (a.1.1,(a.1.2.1,()))).bind fun r3=>
  bif (Nat.ble (r3.size+(bs [47]).size) 9223372036854775807) then
  (yc (r0.1,(r0.2.1,()))).bind fun r4=>
  bif (Nat.ble ((r3++(bs [47])).size+r4.size) 9223372036854775807) then
  some ((r3++(bs [47]))++r4)
  else none
  else none
 else
  (yc (a.1.1,(a.1.2.1,()))).bind fun r5=>
  some r5
theorem DG (a):nc a=xZ jL xQ fK ng a:=(e1 44 _).trans (by kernel_rfl)
def Ab (tp:af jL)(HG:af pr)(lF:af fK)(a:(Bool×(List Int)×Unit)×(Bool×(List Int)×Unit)×Unit)(b:(Bool×(List Int)×Unit)×(Bool×(List Int)×Unit)×Unit):Option (Int):=
 (tp ((b.1.1,(b.1.2.1,())),((b.2.1.1,(b.2.1.2.1,())),()))).bind fun r0=>
 (HG (a.1.1,(a.1.2.1,())) (r0.1,(r0.2.1,()))).bind fun r1=>
 (tp ((a.1.1,(a.1.2.1,())),((a.2.1.1,(a.2.1.2.1,())),()))).bind fun r2=>
 (HG (b.1.1,(b.1.2.1,())) (r2.1,(r2.2.1,()))).bind fun r3=>
 (lF (r1.1,(r1.2.1,())) (r3.1,(r3.2.1,()))).bind fun r4=>
 some r4
theorem Ft (a b):pk a b=Ab jL pr fK a b:=(e1 74 _).trans (by kernel_rfl)
def yA (EB:af nM)(vJ:af jl)(s:ByteArray)(neg:Bool)(Es:Int)(d:List Int)(t:Bool)(t2:List Int):Option ((Bool×(List Int)×Unit)×Bool):=
 bif (decide (Es>0)) then
  let e0:Int:=(bif decide ((IntKind.wrap .i64 (Es - 9))>0) then (IntKind.wrap .i64 (Es - 9)) else 0)
  bif (di s.size e0 Es) then
  bif (Nat.ble (s.extract e0.toNat Es.toNat).size 140737488355328) then
  let e1:Int:=((bytesOf (s.extract e0.toNat Es.toNat)).length:Int)
  EB s neg Es 0 (bytesOf (s.extract e0.toNat Es.toNat)) e1 0 d t t2
  else none
  else none
 else
  (vJ neg d).bind fun r2=>
  some ((r2.1,(r2.2.1,())),true)
theorem BV (s neg Es d t t2):jK s neg Es d t t2=yA nM jl s neg Es d t t2:=(l1 76 0 _).trans (by kernel_rfl)
def yB (EB:af nM)(yD:af jK)(s:ByteArray)(neg:Bool)(Es:Int)(x:Int)(t:List Int)(t2:Int)(t3:Int)(d:List Int)(t4:Bool)(t5:List Int):Option ((Bool×(List Int)×Unit)×Bool):=
 bif (decide (t3<t2)) then
  (idx t t3).bind fun v0=>
  bif (decide (v0<48)) then
   some ((false,(([]:List Int),())),false)
  else
   bif (decide (v0>57)) then
    some ((false,(([]:List Int),())),false)
   else
    let e1:Int:=(IntKind.wrap .u32 (IntKind.wrap .u8 (v0 - 48)))
    let e2:Int:=(IntKind.wrap .u32 ((IntKind.wrap .u32 (10*x))+e1))
    EB s neg Es e2 t t2 (IntKind.wrap .i64 (t3+1)) d t4 t5
 else
  bif (aG 4 1 d.length 1) then
  yD s neg (IntKind.wrap .i64 (Es - 9)) (d++([x]:List Int)) t4 t5
  else none
theorem BW (s neg Es x t t2 t3 d t4 t5):nM s neg Es x t t2 t3 d t4 t5=yB nM jK s neg Es x t t2 t3 d t4 t5:=(l1 76 1 _).trans (by kernel_rfl)
def MD (yD:af jK)(KU:af iV)(a:ByteArray):Option ((Bool×(List Int)×Unit)×Bool):=
 (KU a (bs [45])).bind fun r0=>
 bif (r0.1.toList==ByteArray.empty.toList) then
  some ((false,(([]:List Int),())),false)
 else
  (zQ r0.1 0).bind fun v1=>
  bif (v1==48) then
   bif (decide ((r0.1.size:Int)>1)) then
    some ((false,(([]:List Int),())),false)
   else
    bif r0.2 then
     some ((false,(([]:List Int),())),false)
    else
     yD r0.1 r0.2 (r0.1.size:Int) ([]:List Int) false ([]:List Int)
  else
   yD r0.1 r0.2 (r0.1.size:Int) ([]:List Int) false ([]:List Int)
theorem Q2 (a):Fh a=MD jK iV a:=(e1 76 _).trans (by kernel_rfl)
def DH (DI:af uz)(u:Int)(neg:Bool)(d:List Int)(t:Bool)(t2:List Int):Option (Bool×(List Int)×Unit):=
 bif (decide (u>0)) then
  let e0:List Int:=([(IntKind.wrap .u32 (u.tmod 1000000000))]:List Int)
  bif (aG 4 1 d.length 1) then
  DI (IntKind.wrap .u64 (u.tdiv 1000000000)) neg (d++e0) t t2
  else none
 else
  some (neg,(d,()))
theorem G1 (u neg d t t2):uz u neg d t t2=DH uz u neg d t t2:=(l1 77 0 _).trans (by kernel_rfl)
def TT (DI:af uz)(n:Int):Option (Bool×(List Int)×Unit):=
 bif (decide (n<0)) then
  DI (IntKind.wrap .u64 (0 - (IntKind.wrap .u64 n))) (decide (n<0)) ([]:List Int) false ([]:List Int)
 else
  DI (IntKind.wrap .u64 n) (decide (n<0)) ([]:List Int) false ([]:List Int)
theorem Wt (n):xQ n=TT uz n:=(e1 77 _).trans (by kernel_rfl)
def yd (a:Bool×(List Int)×Unit):Option (Int):=
 bif ((a.2.1.length:Int)==0) then
  some 0
 else
  bif a.1 then
   some (-1)
  else
   some 1
theorem DJ (a):iL a=yd a:=(e1 78 _).trans (by kernel_rfl)
def Ac (G2:af ze)(a:Bool×(List Int)×Unit)(b:Bool×(List Int)×Unit):Option (Int):=
 bif (!(a.1==b.1)) then
  bif a.1 then
   some (-1)
  else
   some 1
 else
  bif a.1 then
   (G2 b.2.1 a.2.1).bind fun r0=>
   some r0
  else
   (G2 a.2.1 b.2.1).bind fun r1=>
   some r1
theorem Fu (a b):fK a b=Ac ze a b:=(e1 79 _).trans (by kernel_rfl)
def tH (oa:af eA)(TV:af Fk)(Z3:af Fj)(sV:af xQ)(Q3:af xR)(qK:af ni)(x:List Int)(y:List Int)(t:Bool)(t2:List Int):Option (Bool×(List Int)×Unit):=
 bif (decide ((y.length:Int)>0)) then
  bif (decide ((x.length:Int)≤2)) then
   bif (decide ((y.length:Int)≤2)) then
    (TV x).bind fun r0=>
    (TV y).bind fun r1=>
    (Z3 r0 r1).bind fun r2=>
    (sV r2).bind fun r3=>
    some (r3.1,(r3.2.1,()))
   else
    (Q3 x y).bind fun r4=>
    (qK r4.2).bind fun r5=>
    oa y r5 t t2
  else
   (Q3 x y).bind fun r6=>
   (qK r6.2).bind fun r7=>
   oa y r7 t t2
 else
  some (false,(x,()))
theorem Az (x y t t2):eA x y t t2=tH eA Fk Fj xQ xR ni x y t t2:=(l1 80 0 _).trans (by kernel_rfl)
def Ad (oa:af eA)(a:Bool×(List Int)×Unit)(b:Bool×(List Int)×Unit):Option (Bool×(List Int)×Unit):=
 oa a.2.1 b.2.1 false ([]:List Int)
theorem Fv (a b):pn a b=Ad eA a b:=(e1 80 _).trans (by kernel_rfl)
def Ae (vJ:af jl)(a:Bool×(List Int)×Unit):Option (Bool×(List Int)×Unit):=
 (vJ (!a.1) a.2.1).bind fun r0=>
 some (r0.1,(r0.2.1,()))
theorem Fw (a):po a=Ae jl a:=(e1 81 _).trans (by kernel_rfl)
def Af (xY:af iL)(sV:af xQ)(a:(Bool×(List Int)×Unit)×(Bool×(List Int)×Unit)×Unit):Option (Bool×(List Int)×Unit):=
 (xY (a.2.1.1,(a.2.1.2.1,()))).bind fun r0=>
 bif (r0==0) then
  (sV 1).bind fun r1=>
  some (r1.1,(r1.2.1,()))
 else
  some (a.2.1.1,(a.2.1.2.1,()))
theorem Fx (a):jL a=Af iL xQ a:=(e1 82 _).trans (by kernel_rfl)
def mN (sc:af eM)(se:af dJ)(t:List Int)(t2:Int)(t3:Int)(out:List Int)(a:Bool)(a2:List Int):Option (ByteArray):=
 bif (decide (t3<t2)) then
  (idx t t3).bind fun v0=>
  sc v0 t t2 t3 0 out a a2
 else
  se out a a2
theorem qL (t t2 t3 out a a2):dI t t2 t3 out a a2=mN eM dJ t t2 t3 out a a2:=(l1 83 0 _).trans (by kernel_rfl)
def mO (sc:af eM)(sf:af dI)(x:Int)(t:List Int)(t2:Int)(t3:Int)(t4:Int)(out:List Int)(a:Bool)(a2:List Int):Option (ByteArray):=
 bif (decide (t4<9)) then
  let e0:Int:=(IntKind.wrap .u32 (48+(x.tmod 10)))
  bif (aG 1 1 out.length 1) then
  sc (IntKind.wrap .u32 (x.tdiv 10)) t t2 t3 (IntKind.wrap .i64 (t4+1)) (out++([(IntKind.wrap .u8 e0)]:List Int)) a a2
  else none
 else
  sf t t2 (IntKind.wrap .i64 (t3+1)) out a a2
theorem qM (x t t2 t3 t4 out a a2):eM x t t2 t3 t4 out a a2=mO eM dI x t t2 t3 t4 out a a2:=(l1 83 1 _).trans (by kernel_rfl)
def sg (se:af dJ)(mP:af dK)(out:List Int)(a:Bool)(a2:List Int):Option (ByteArray):=
 let e0:Int:=(IntKind.wrap .i64 ((out.length:Int) - 1))
 (idx out e0).bind fun _=>
 (out[e0.toNat]?).bind fun v1=>
 bif (v1==48) then
  let e2:Int:=(IntKind.wrap .i64 ((out.length:Int) - 1))
  bif (di out.length 0 e2) then
  se (out.take e2.toNat) a a2
  else none
 else
  bif a then
   bif (aG 1 1 out.length 1) then
   let e3:Int:=((out++([45]:List Int)).length:Int)
   mP 0 (IntKind.wrap .i64 (e3 - 1)) (out++([45]:List Int))
   else none
  else
   let e4:Int:=(IntKind.wrap .i64 ((out.length:Int) - 1))
   mP 0 e4 out
theorem zg (out a a2):dJ out a a2=sg dJ dK out a a2:=(l1 83 2 _).trans (by kernel_rfl)
def sh (mP:af dK)(i:Int)(j:Int)(out:List Int):Option (ByteArray):=
 bif (decide (i<j)) then
  (idx out j).bind fun _=>
  (out[j.toNat]?).bind fun v0=>
  (idx out i).bind fun _=>
  (out[i.toNat]?).bind fun v1=>
  (idx out i).bind fun _=>
  (out[i.toNat]?).bind fun v2=>
  (idx (out.set i.toNat v0) j).bind fun _=>
  ((out.set i.toNat v0)[j.toNat]?).bind fun v3=>
  mP (IntKind.wrap .i64 (i+1)) (IntKind.wrap .i64 (j - 1)) ((out.set i.toNat v0).set j.toNat v1)
 else
  some (strOf out)
theorem zh (i j out):dK i j out=sh dK i j out:=(l1 83 3 _).trans (by kernel_rfl)
def ye (sf:af dI)(a:Bool×(List Int)×Unit):Option (ByteArray):=
 bif ((a.2.1.length:Int)==0) then
  some (bs [48])
 else
  let e0:Int:=(IntKind.wrap .i64 (9*(a.2.1.length:Int)))
  bif (je 1 0 (IntKind.wrap .i64 (e0+1))) then
  sf a.2.1 (a.2.1.length:Int) 0 ([]:List Int) a.1 a.2.1
  else none
theorem DK (a):ng a=ye dI a:=(e1 83 _).trans (by kernel_rfl)
def oc (tI:af fB)(vJ:af jl)(t:List Int)(t2:Int)(t3:Int)(out:List Int)(a:Bool)(a2:List Int)(b:Bool)(b2:List Int)(t4:Bool)(t5:List Int):Option (Bool×(List Int)×Unit):=
 bif (decide (t3<t2)) then
  (idx t t3).bind fun v0=>
  tI t3 v0 0 t t2 t3 b2 (b2.length:Int) 0 out a a2 b b2 t4 t5
 else
  (vJ (!(a==b)) out).bind fun r1=>
  some (r1.1,(r1.2.1,()))
theorem si (t t2 t3 out a a2 b b2 t4 t5):dn t t2 t3 out a a2 b b2 t4 t5=oc fB jl t t2 t3 out a a2 b b2 t4 t5:=(l1 110 0 _).trans (by kernel_rfl)
def od (tI:af fB)(tJ:af dn)(i:Int)(x:Int)(carry:Int)(t:List Int)(t2:Int)(t3:Int)(t4:List Int)(t5:Int)(t6:Int)(out:List Int)(a:Bool)(a2:List Int)(b:Bool)(b2:List Int)(t7:Bool)(t8:List Int):Option (Bool×(List Int)×Unit):=
 bif (decide (t6<t5)) then
  (idx t4 t6).bind fun v0=>
  let e1:Int:=(IntKind.wrap .u64 ((IntKind.wrap .u64 x)*(IntKind.wrap .u64 v0)))
  (idx out (IntKind.wrap .i64 (i+t6))).bind fun _=>
  (out[(IntKind.wrap .i64 (i+t6)).toNat]?).bind fun v2=>
  let e3:Int:=(IntKind.wrap .u64 (e1+(IntKind.wrap .u64 v2)))
  let e4:Int:=((IntKind.wrap .u64 (carry+e3)).tmod 1000000000)
  (idx out (IntKind.wrap .i64 (i+t6))).bind fun _=>
  (out[(IntKind.wrap .i64 (i+t6)).toNat]?).bind fun v5=>
  let e6:List Int:=(out.set (IntKind.wrap .i64 (i+t6)).toNat (IntKind.wrap .u32 e4))
  let e7:Int:=(IntKind.wrap .u64 ((IntKind.wrap .u64 (carry+e3)).tdiv 1000000000))
  tI i x e7 t t2 t3 t4 t5 (IntKind.wrap .i64 (t6+1)) e6 a a2 b b2 t7 t8
 else
  (idx out (IntKind.wrap .i64 (i+(b2.length:Int)))).bind fun _=>
  (out[(IntKind.wrap .i64 (i+(b2.length:Int))).toNat]?).bind fun v8=>
  let e9:List Int:=(out.set (IntKind.wrap .i64 (i+(b2.length:Int))).toNat (IntKind.wrap .u32 carry))
  tJ t t2 (IntKind.wrap .i64 (t3+1)) e9 a a2 b b2 t7 t8
theorem sj (i x carry t t2 t3 t4 t5 t6 out a a2 b b2 t7 t8):fB i x carry t t2 t3 t4 t5 t6 out a a2 b b2 t7 t8=od fB dn i x carry t t2 t3 t4 t5 t6 out a a2 b b2 t7 t8:=(l1 110 1 _).trans (by kernel_rfl)
def Ag (tJ:af dn)(a:Bool×(List Int)×Unit)(b:Bool×(List Int)×Unit):Option (Bool×(List Int)×Unit):=
 let e0:Int:=(IntKind.wrap .i64 ((a.2.1.length:Int)+(b.2.1.length:Int)))
 bif (je 4 e0 e0) then
 tJ a.2.1 (a.2.1.length:Int) 0 (List.replicate e0.toNat 0) a.1 a.2.1 b.1 b.2.1 false ([]:List Int)
 else none
theorem Fy (a b):pr a b=Ag dn a b:=(e1 110 _).trans (by kernel_rfl)
def G3 (qK:af ni)(neg:Bool)(d:List Int):Option (Bool×(List Int)×Unit):=
 (qK d).bind fun r0=>
 bif neg then
  some ((decide ((r0.length:Int)>0)),(r0,()))
 else
  some (false,(r0,()))
theorem LQ (neg d):jl neg d=G3 ni neg d:=(e1 113 _).trans (by kernel_rfl)
def yE (EC:af nN)(a:List Int)(b:List Int)(i:Int):Option (Int):=
 bif (decide (i≥0)) then
  (idx a i).bind fun v0=>
  (idx b i).bind fun v1=>
  bif (v0 != v1) then
   (idx a i).bind fun v2=>
   (idx b i).bind fun v3=>
   bif (decide (v2<v3)) then
    some (-1)
   else
    some 1
  else
   EC a b (IntKind.wrap .i64 (i - 1))
 else
  some 0
theorem BY (a b i):nN a b i=yE nN a b i:=(l1 114 0 _).trans (by kernel_rfl)
def ME (EC:af nN)(a:List Int)(b:List Int):Option (Int):=
 bif ((a.length:Int) != (b.length:Int)) then
  bif (decide ((a.length:Int)<(b.length:Int))) then
   some (-1)
  else
   some 1
 else
  let e0:Int:=(IntKind.wrap .i64 ((a.length:Int) - 1))
  EC a b e0
theorem Q4 (a b):ze a b=ME nN a b:=(e1 114 _).trans (by kernel_rfl)
def B0 (B1:af lP)(x:Int)(y:Int):Option (Int):=
 bif (decide (y>0)) then
  bif (!(y==0)) then
  B1 y (x.tmod y)
  else none
 else
  some x
theorem HH (x y):lP x y=B0 lP x y:=(l1 115 0 _).trans (by kernel_rfl)
def Jj (B1:af lP)(x:Int)(y:Int):Option (Int):=
 B1 x y
theorem Oj (x y):Fj x y=Jj lP x y:=(e1 115 _).trans (by kernel_rfl)
def jO (ED:af qF)(d:List Int)(n:Int)(i:Int):Option (Int):=
 bif (decide (i≥0)) then
  (idx d i).bind fun v0=>
  let e1:Int:=(IntKind.wrap .i64 ((IntKind.wrap .i64 (n*1000000000))+(IntKind.wrap .i64 v0)))
  ED d e1 (IntKind.wrap .i64 (i - 1))
 else
  some n
theorem kn (d n i):qF d n i=jO qF d n i:=(l1 116 0 _).trans (by kernel_rfl)
def MF (ED:af qF)(d:List Int):Option (Int):=
 let e0:Int:=(IntKind.wrap .i64 ((d.length:Int) - 1))
 ED d 0 e0
theorem Q5 (d):Fk d=MF qF d:=(e1 116 _).trans (by kernel_rfl)
def Jk (G2:af ze)(Jl:af uB)(qK:af ni)(abU:af Fl)(a:List Int)(b:List Int):Option ((List Int)×List Int):=
 (G2 a b).bind fun r0=>
 bif (decide (r0<0)) then
  some (([]:List Int),a)
 else
  bif ((b.length:Int)==1) then
   (idx b 0).bind fun v1=>
   (Jl a v1).bind fun r2=>
   (qK ([r2.2]:List Int)).bind fun r3=>
   some (r2.1,r3)
  else
   (abU a b).bind fun r4=>
   some (r4.1,r4.2)
theorem Ol (a b):xR a b=Jk ze uB ni Fl a b:=(e1 117 _).trans (by kernel_rfl)
def yF (EE:af nO)(d:List Int):Option (List Int):=
 bif (decide ((d.length:Int)>0)) then
  let e0:Int:=(IntKind.wrap .i64 ((d.length:Int) - 1))
  (idx d e0).bind fun v1=>
  bif (v1==0) then
   let e2:Int:=(IntKind.wrap .i64 ((d.length:Int) - 1))
   bif (di d.length 0 e2) then
   EE (cut d 0 e2)
   else none
  else
   some d
 else
  some d
theorem B2 (d):nO d=yF nO d:=(l1 118 0 _).trans (by kernel_rfl)
def MG (EE:af nO)(d:List Int):Option (List Int):=
 EE d
theorem Q6 (d):ni d=MG nO d:=(e1 118 _).trans (by kernel_rfl)
def yf (Fz:af np)(a:(Bool×(List Int)×Unit)×(Bool×(List Int)×Unit)×Unit):Option (Bool):=
 (Fz (a.1.1,(a.1.2.1,()))).bind fun r0=>
 bif r0 then
  some true
 else
  (Fz (a.2.1.1,(a.2.1.2.1,()))).bind fun r1=>
  some r1
theorem DL (a):nj a=yf np a:=(e1 149 _).trans (by kernel_rfl)
def vK (B3:af lQ)(a:List Int)(b:Int)(rest:Int)(i:Int)(out:List Int):Option ((List Int)×Int):=
 bif (decide (i≥0)) then
  (idx a i).bind fun v0=>
  let e1:Int:=(IntKind.wrap .u64 ((IntKind.wrap .u64 (rest*1000000000))+(IntKind.wrap .u64 v0)))
  bif (!((IntKind.wrap .u64 b)==0)) then
  let e2:Int:=(IntKind.wrap .u64 (e1.tdiv (IntKind.wrap .u64 b)))
  bif (!((IntKind.wrap .u64 b)==0)) then
  (idx out i).bind fun _=>
  (out[i.toNat]?).bind fun v3=>
  B3 a b (e1.tmod (IntKind.wrap .u64 b)) (IntKind.wrap .i64 (i - 1)) (out.set i.toNat (IntKind.wrap .u32 e2))
  else none
  else none
 else
  some (out,(IntKind.wrap .u32 rest))
theorem Ah (a b rest i out):lQ a b rest i out=vK lQ a b rest i out:=(l1 152 0 _).trans (by kernel_rfl)
def Jm (B3:af lQ)(a:List Int)(b:Int):Option ((List Int)×Int):=
 bif (je 4 (a.length:Int) (a.length:Int)) then
 let e0:List Int:=(List.replicate (a.length:Int).toNat 0)
 let e1:Int:=(IntKind.wrap .i64 ((a.length:Int) - 1))
 B3 a b 0 e1 e0
 else none
theorem On (a b):uB a b=Jm lQ a b:=(e1 152 _).trans (by kernel_rfl)
def yI (yJ:af jM)(Jl:af uB)(k:Int)(v:List Int)(n:Int)(j:Int)(q:List Int)(u:List Int):Option ((List Int)×List Int):=
 bif (decide (j≥0)) then
  (idx u (IntKind.wrap .i64 (j+n))).bind fun _=>
  (u[(IntKind.wrap .i64 (j+n)).toNat]?).bind fun v0=>
  let e1:Int:=(IntKind.wrap .u64 ((IntKind.wrap .u64 v0)*1000000000))
  let e2:Int:=(IntKind.wrap .i64 ((IntKind.wrap .i64 (j+n)) - 1))
  (idx u e2).bind fun _=>
  (u[e2.toNat]?).bind fun v3=>
  let e4:Int:=(IntKind.wrap .u64 (e1+(IntKind.wrap .u64 v3)))
  (idx v (IntKind.wrap .i64 (n - 1))).bind fun v5=>
  bif (!((IntKind.wrap .u64 v5)==0)) then
  let e6:Int:=(IntKind.wrap .u64 (e4.tdiv (IntKind.wrap .u64 v5)))
  (idx v (IntKind.wrap .i64 (n - 1))).bind fun v7=>
  bif (!((IntKind.wrap .u64 v7)==0)) then
  yJ k v n j e6 (e4.tmod (IntKind.wrap .u64 v7)) q u
  else none
  else none
 else
  bif (di u.length 0 n) then
  (Jl (u.take n.toNat) k).bind fun r8=>
  some (q,r8.1)
  else none
theorem B4 (k v n j q u):eN k v n j q u=yI jM uB k v n j q u:=(l1 153 0 _).trans (by kernel_rfl)
def yK (jP:af gv)(yJ:af jM)(k:Int)(v:List Int)(n:Int)(j:Int)(guess:Int)(rest:Int)(q:List Int)(u:List Int):Option ((List Int)×List Int):=
 bif (decide (guess≥1000000000)) then
  (idx v (IntKind.wrap .i64 (n - 1))).bind fun v0=>
  let e1:Int:=(IntKind.wrap .u64 (rest+(IntKind.wrap .u64 v0)))
  bif (decide (e1≥1000000000)) then
   jP k v n j (IntKind.wrap .u64 (guess - 1)) 0 n 0 q u
  else
   yJ k v n j (IntKind.wrap .u64 (guess - 1)) e1 q u
 else
  (idx v (IntKind.wrap .i64 (n - 2))).bind fun v2=>
  let e3:Int:=(IntKind.wrap .u64 (guess*(IntKind.wrap .u64 v2)))
  let e4:Int:=(IntKind.wrap .i64 ((IntKind.wrap .i64 (j+n)) - 2))
  (idx u e4).bind fun _=>
  (u[e4.toNat]?).bind fun v5=>
  let e6:Int:=(IntKind.wrap .u64 ((IntKind.wrap .u64 (rest*1000000000))+(IntKind.wrap .u64 v5)))
  bif (decide (e3>e6)) then
   (idx v (IntKind.wrap .i64 (n - 1))).bind fun v7=>
   let e8:Int:=(IntKind.wrap .u64 (rest+(IntKind.wrap .u64 v7)))
   bif (decide (e8≥1000000000)) then
    jP k v n j (IntKind.wrap .u64 (guess - 1)) 0 n 0 q u
   else
    yJ k v n j (IntKind.wrap .u64 (guess - 1)) e8 q u
  else
   jP k v n j guess 0 n 0 q u
theorem B5 (k v n j guess rest q u):jM k v n j guess rest q u=yK gv jM k v n j guess rest q u:=(l1 153 1 _).trans (by kernel_rfl)
def yL (jP:af gv)(EF:af lR)(sW:af eN)(k:Int)(v:List Int)(n:Int)(j:Int)(guess:Int)(borrow:Int)(t:Int)(t2:Int)(q:List Int)(u:List Int):Option ((List Int)×List Int):=
 bif (decide (t2<t)) then
  (idx u (IntKind.wrap .i64 (t2+j))).bind fun _=>
  (u[(IntKind.wrap .i64 (t2+j)).toNat]?).bind fun v0=>
  let e1:Int:=(IntKind.wrap .i64 ((IntKind.wrap .i64 v0) - borrow))
  (idx v t2).bind fun v2=>
  let e3:Int:=(IntKind.wrap .i64 ((IntKind.wrap .i64 guess)*(IntKind.wrap .i64 v2)))
  let e4:Int:=(IntKind.wrap .i64 (e1 - (e3.tmod 1000000000)))
  (idx v t2).bind fun v5=>
  let e6:Int:=(IntKind.wrap .i64 ((IntKind.wrap .i64 guess)*(IntKind.wrap .i64 v5)))
  bif (decide (e4<0)) then
   let e7:Int:=(IntKind.wrap .i64 ((IntKind.wrap .i64 (e6.tdiv 1000000000))+1))
   bif (decide ((IntKind.wrap .i64 (e4+1000000000))<0)) then
    let e8:Int:=(IntKind.wrap .i64 ((IntKind.wrap .i64 (e4+1000000000))+1000000000))
    (idx u (IntKind.wrap .i64 (t2+j))).bind fun _=>
    (u[(IntKind.wrap .i64 (t2+j)).toNat]?).bind fun v9=>
    let ZQ:List Int:=(u.set (IntKind.wrap .i64 (t2+j)).toNat (IntKind.wrap .u32 e8))
    jP k v n j guess (IntKind.wrap .i64 (e7+1)) t (IntKind.wrap .i64 (t2+1)) q ZQ
   else
    let U8:Int:=(IntKind.wrap .u32 (IntKind.wrap .i64 (e4+1000000000)))
    (idx u (IntKind.wrap .i64 (t2+j))).bind fun _=>
    (u[(IntKind.wrap .i64 (t2+j)).toNat]?).bind fun v12=>
    jP k v n j guess e7 t (IntKind.wrap .i64 (t2+1)) q (u.set (IntKind.wrap .i64 (t2+j)).toNat U8)
  else
   bif (decide (e4<0)) then
    let XN:Int:=(IntKind.wrap .i64 ((IntKind.wrap .i64 (e6.tdiv 1000000000))+1))
    let e14:Int:=(IntKind.wrap .u32 (IntKind.wrap .i64 (e4+1000000000)))
    (idx u (IntKind.wrap .i64 (t2+j))).bind fun _=>
    (u[(IntKind.wrap .i64 (t2+j)).toNat]?).bind fun v15=>
    jP k v n j guess XN t (IntKind.wrap .i64 (t2+1)) q (u.set (IntKind.wrap .i64 (t2+j)).toNat e14)
   else
    (idx u (IntKind.wrap .i64 (t2+j))).bind fun _=>
    (u[(IntKind.wrap .i64 (t2+j)).toNat]?).bind fun v16=>
    let e17:List Int:=(u.set (IntKind.wrap .i64 (t2+j)).toNat (IntKind.wrap .u32 e4))
    jP k v n j guess (IntKind.wrap .i64 (e6.tdiv 1000000000)) t (IntKind.wrap .i64 (t2+1)) q e17
 else
  (idx u (IntKind.wrap .i64 (j+n))).bind fun _=>
  (u[(IntKind.wrap .i64 (j+n)).toNat]?).bind fun v18=>
  let e19:Int:=(IntKind.wrap .i64 ((IntKind.wrap .i64 v18) - borrow))
  bif (decide (e19<0)) then
   EF k v n j (IntKind.wrap .u64 (guess - 1)) e19 0 n 0 q u
  else
   (idx u (IntKind.wrap .i64 (j+n))).bind fun _=>
   (u[(IntKind.wrap .i64 (j+n)).toNat]?).bind fun v20=>
   let e21:List Int:=(u.set (IntKind.wrap .i64 (j+n)).toNat 0)
   (idx q j).bind fun _=>
   (q[j.toNat]?).bind fun v22=>
   sW k v n (IntKind.wrap .i64 (j - 1)) (q.set j.toNat (IntKind.wrap .u32 guess)) e21
theorem B6 (k v n j guess borrow t t2 q u):gv k v n j guess borrow t t2 q u=yL gv lR eN k v n j guess borrow t t2 q u:=(l1 153 2 _).trans (by kernel_rfl)
def yM (EF:af lR)(sW:af eN)(k:Int)(v:List Int)(n:Int)(j:Int)(guess:Int)(x:Int)(carry:Int)(t:Int)(t2:Int)(q:List Int)(u:List Int):Option ((List Int)×List Int):=
 bif (decide (t2<t)) then
  (idx u (IntKind.wrap .i64 (t2+j))).bind fun _=>
  (u[(IntKind.wrap .i64 (t2+j)).toNat]?).bind fun v0=>
  (idx v t2).bind fun v1=>
  let e2:Int:=(IntKind.wrap .u32 ((IntKind.wrap .u32 (v0+v1))+carry))
  (idx u (IntKind.wrap .i64 (t2+j))).bind fun _=>
  (u[(IntKind.wrap .i64 (t2+j)).toNat]?).bind fun v3=>
  let e4:List Int:=(u.set (IntKind.wrap .i64 (t2+j)).toNat (e2.tmod 1000000000))
  EF k v n j guess x (IntKind.wrap .u32 (e2.tdiv 1000000000)) t (IntKind.wrap .i64 (t2+1)) q e4
 else
  let e5:Int:=(IntKind.wrap .i64 (x+(IntKind.wrap .i64 carry)))
  (idx u (IntKind.wrap .i64 (j+n))).bind fun _=>
  (u[(IntKind.wrap .i64 (j+n)).toNat]?).bind fun v6=>
  let e7:List Int:=(u.set (IntKind.wrap .i64 (j+n)).toNat 0)
  (idx q j).bind fun _=>
  (q[j.toNat]?).bind fun v8=>
  sW k v n (IntKind.wrap .i64 (j - 1)) (q.set j.toNat (IntKind.wrap .u32 guess)) e7
theorem B7 (k v n j guess x carry t t2 q u):lR k v n j guess x carry t t2 q u=yM lR eN k v n j guess x carry t t2 q u:=(l1 153 3 _).trans (by kernel_rfl)
def MH (sW:af eN)(Oo:af xS)(qK:af ni)(a:List Int)(b:List Int):Option ((List Int)×List Int):=
 let e0:Int:=(IntKind.wrap .i64 ((b.length:Int) - 1))
 (idx b e0).bind fun v1=>
 let e2:Int:=(IntKind.wrap .u64 ((IntKind.wrap .u64 v1)+1))
 bif (!(e2==0)) then
 let e3:Int:=(IntKind.wrap .u32 (IntKind.wrap .u64 ((1000000000:Int).tdiv e2)))
 (Oo a e3).bind fun r4=>
 (Oo b e3).bind fun r5=>
 (qK r5).bind fun r6=>
 let e7:Int:=(IntKind.wrap .i64 ((r4.length:Int) - (r6.length:Int)))
 bif (je 4 e7 e7) then
 let e8:Int:=(IntKind.wrap .i64 ((r4.length:Int) - (r6.length:Int)))
 sW e3 r6 (r6.length:Int) (IntKind.wrap .i64 (e8 - 1)) (List.replicate e7.toNat 0) r4
 else none
 else none
theorem Q7 (a b):Fl a b=MH eN xS ni a b:=(e1 153 _).trans (by kernel_rfl)
def yg (MI:af ie)(a:Bool×(List Int)×Unit):Option (Bool):=
 (MI (a.1,(a.2.1,()))).bind fun r0=>
 some (decide (r0>1000))
theorem DM (a):np a=yg ie a:=(e1 164 _).trans (by kernel_rfl)
def tq (Ai:af jN)(k:Int)(carry:Int)(t:List Int)(t2:Int)(t3:Int)(out:List Int):Option (List Int):=
 bif (decide (t3<t2)) then
  (idx t t3).bind fun v0=>
  let e1:Int:=(IntKind.wrap .u64 ((IntKind.wrap .u64 v0)*(IntKind.wrap .u64 k)))
  let e2:Int:=((IntKind.wrap .u64 (carry+e1)).tmod 1000000000)
  bif (aG 4 1 out.length 1) then
  let e3:Int:=(IntKind.wrap .u64 ((IntKind.wrap .u64 (carry+e1)).tdiv 1000000000))
  Ai k e3 t t2 (IntKind.wrap .i64 (t3+1)) (out++([(IntKind.wrap .u32 e2)]:List Int))
  else none
 else
  bif (aG 4 1 out.length 1) then
  let e4:List Int:=(out++([(IntKind.wrap .u32 carry)]:List Int))
  some e4
  else none
theorem yi (k carry t t2 t3 out):jN k carry t t2 t3 out=tq jN k carry t t2 t3 out:=(l1 170 0 _).trans (by kernel_rfl)
def G4 (Ai:af jN)(a:List Int)(k:Int):Option (List Int):=
 let e0:Int:=(IntKind.wrap .i64 ((a.length:Int)+1))
 bif (je 4 0 e0) then
 Ai k 0 a (a.length:Int) 0 ([]:List Int)
 else none
theorem LR (a k):xS a k=G4 jN a k:=(e1 170 _).trans (by kernel_rfl)
def pA (pB:af dC)(n:Int)(x:Int):Option (Int):=
 bif (decide (x>0)) then
  pB (IntKind.wrap .i64 (n+1)) (IntKind.wrap .u32 (x.tdiv 10))
 else
  some n
theorem vL (n x):dC n x=pA dC n x:=(l1 176 0 _).trans (by kernel_rfl)
def tK (pB:af dC)(a:Bool×(List Int)×Unit):Option (Int):=
 bif ((a.2.1.length:Int)==0) then
  some 0
 else
  let e0:Int:=(IntKind.wrap .i64 ((a.2.1.length:Int) - 1))
  let e1:Int:=(IntKind.wrap .i64 ((a.2.1.length:Int) - 1))
  (idx a.2.1 e1).bind fun v2=>
  pB (IntKind.wrap .i64 (9*e0)) v2
theorem AA (a):ie a=tK dC a:=(e1 176 _).trans (by kernel_rfl)
end
noncomputable section
def EG (XO:af BM)(a:ByteArray):Option (Bool):=
 (XO a).bind fun r0=>
 some r0.2
theorem Jn (a):uw a=EG BM a:=(e1 68 _).trans (by kernel_rfl)
def G5 (sT:af gr)(P2:af nj)(a:ByteArray):Option (((Bool×(List Int)×Unit)×(Bool×(List Int)×Unit)×Unit)×Bool):=
 (sT a).bind fun r0=>
 bif r0.2 then
  (P2 ((r0.1.1.1,(r0.1.1.2.1,())),((r0.1.2.1.1,(r0.1.2.1.2.1,())),()))).bind fun r1=>
  some (((r0.1.1.1,(r0.1.1.2.1,())),((r0.1.2.1.1,(r0.1.2.1.2.1,())),())),(!r1))
 else
  some (((r0.1.1.1,(r0.1.1.2.1,())),((r0.1.2.1.1,(r0.1.2.1.2.1,())),())),false)
theorem LS (a):BM a=G5 gr nj a:=(e1 108 _).trans (by kernel_rfl)
end
noncomputable section
def mw (G6:af iO)(s:dk)(f:Int):Option (Bool):=
 (G6 s f).bind fun r0=>
 some (decide (r0≥0))
theorem rP (s f):eC s f=mw iO s f:=(e1 100070 _).trans (by kernel_rfl)
def my (G7:af iP)(s:dk)(f:mJ×zqC):Option (Bool):=
 (G7 s ((f.1.1,(f.1.2.1,())),(f.2.1,(f.2.2.1,(f.2.2.2.1,()))))).bind fun r0=>
 some (decide (r0≥0))
theorem rQ (s f):eD s f=my iP s f:=(e1 100071 _).trans (by kernel_rfl)
def gK (lu:af bY)(RM:af sP)(s:dk)(f:Int)(t:Int)(t2:Int):Option (Int):=
 bif (decide (t2<t)) then
  (idx s t2).bind fun v0=>
  (RM (v0.1,(v0.2.1,())) f).bind fun r1=>
  bif r1 then
   some t2
  else
   lu s f t (IntKind.wrap .i64 (t2+1))
 else
  some (-1)
theorem ko (s f t t2):bY s f t t2=gK bY sP s f t t2:=(l1 100109 0 _).trans (by kernel_rfl)
def oe (lu:af bY)(s:dk)(f:Int):Option (Int):=
 lu s f (s.length:Int) 0
theorem uE (s f):iO s f=oe bY s f:=(e1 100109 _).trans (by kernel_rfl)
def gL (lv:af bZ)(RN:af sQ)(s:dk)(f:Int)(f2:xP)(f3:Int)(f4:ByteArray)(f5:dk)(t:Int)(t2:Int):Option (Int):=
 bif (decide (t2<t)) then
  (idx s t2).bind fun v0=>
  (RN (v0.1,(v0.2.1,())) (f,(f2,())) (f3,(f4,(f5,())))).bind fun r1=>
  bif r1 then
   some t2
  else
   lv s f f2 f3 f4 f5 t (IntKind.wrap .i64 (t2+1))
 else
  some (-1)
theorem kp (s f f2 f3 f4 f5 t t2):bZ s f f2 f3 f4 f5 t t2=gL bZ sQ s f f2 f3 f4 f5 t t2:=(l1 100110 0 _).trans (by kernel_rfl)
def og (lv:af bZ)(s:dk)(f:mJ×zqC):Option (Int):=
 lv s f.1.1 f.1.2.1 f.2.1 f.2.2.1 f.2.2.2.1 (s.length:Int) 0
theorem uF (s f):iP s f=og bZ s f:=(e1 100110 _).trans (by kernel_rfl)
end
noncomputable section
def EH (Oq:af o9)(s:ByteArray)(sep:ByteArray):Option (ByteArray×ByteArray×Bool):=
 (Oq s sep).bind fun r0=>
 some (r0.1,r0.2.1,r0.2.2)
theorem Jo (s sep):uy s sep=EH o9 s sep:=(e1 75 _).trans (by kernel_rfl)
def sk (FA:af gR)(s:ByteArray)(fk:ByteArray):Option (ByteArray×Bool):=
 (FA s fk).bind fun r0=>
 some (r0.1,r0.2)
theorem zi (s fk):iV s fk=sk gR s fk:=(e1 112 _).trans (by kernel_rfl)
end
noncomputable section
def vM (KV:af iY)(s:ByteArray)(sep:ByteArray):Option (ByteArray×ByteArray×Bool):=
 (KV s sep).bind fun r0=>
 bif (decide (r0≥0)) then
  bif (di s.size 0 r0) then
  bif (di s.size (IntKind.wrap .i64 (r0+(sep.size:Int))) (s.size:Int)) then
  let e1:ByteArray:=(s.extract (IntKind.wrap .i64 (r0+(sep.size:Int))).toNat (s.size:Int).toNat)
  some ((s.extract (0:Int).toNat r0.toNat),e1,true)
  else none
  else none
 else
  some (s,ByteArray.empty,false)
theorem B8 (s sep):o9 s sep=vM iY s sep:=(e1 111 _).trans (by kernel_rfl)
def sn (FB:af eU)(s:ByteArray)(substr:ByteArray):Option (Int):=
 bif ((substr.size:Int)==0) then
  some 0
 else
  bif (substr.toList==s.toList) then
   some 0
  else
   bif ((substr.size:Int)==1) then
    (zQ substr 0).bind fun v0=>
    (FB s v0).bind fun r1=>
    some r1
   else
    bif (decide ((substr.size:Int)≥(s.size:Int))) then
    some (-1)
    else none
theorem zj (s substr):iY s substr=sn eU s substr:=(e1 150 _).trans (by kernel_rfl)
def nu (FC:af gS)(s:ByteArray)(fk:ByteArray):Option (ByteArray×Bool):=
 (FC s fk).bind fun r0=>
 bif (!r0) then
  some (s,false)
 else
  bif (di s.size (fk.size:Int) (s.size:Int)) then
  let e1:ByteArray:=(s.extract (fk.size:Int).toNat (s.size:Int).toNat)
  some (e1,true)
  else none
theorem sX (s fk):gR s fk=nu gS s fk:=(e1 151 _).trans (by kernel_rfl)
def nv (s:ByteArray)(fk:ByteArray):Option (Bool):=
 bif (decide ((s.size:Int)≥(fk.size:Int))) then
  bif (di s.size 0 (fk.size:Int)) then
  let e0:ByteArray:=(s.extract (0:Int).toNat (fk.size:Int).toNat)
  some (e0.toList==fk.toList)
  else none
 else
  some false
theorem sY (s fk):gS s fk=nv s fk:=(e1 169 _).trans (by kernel_rfl)
end
noncomputable section
end
noncomputable section
def lx (gM:af cS)(e:Int)(f:Int)(g:Int)(GU:Int)(t:dk)(t2:Int)(t3:Int)(v:Int)(v2:Int)(w:Int)(w2:Int)(u:Int)(u2:Int):Option (Bool):=
 bif (decide (t3<t2)) then
  (idx t t3).bind fun v0=>
  bif (decide (v0.2.1≥0)) then
   gM e f g (IntKind.wrap .i64 (GU+1)) t t2 (IntKind.wrap .i64 (t3+1)) v v2 w w2 u u2
  else
   gM e f g GU t t2 (IntKind.wrap .i64 (t3+1)) v v2 w w2 u u2
 else
  bif (e==0) then
   bif (f==0) then
    bif (g==0) then
     bif (v2==0) then
      bif (w2==GU) then
       bif (u2==GU) then
        bif (decide (w≥0)) then
         some (decide (w≤v))
        else
         some false
       else
        some false
      else
       some false
     else
      some false
    else
     some false
   else
    some false
  else
   some false
theorem qN (e f g GU t t2 t3 v v2 w w2 u u2):cS e f g GU t t2 t3 v v2 w w2 u u2=lx cS e f g GU t t2 t3 v v2 w w2 u u2:=(l1 10 0 _).trans (by kernel_rfl)
def vN (gM:af cS)(MJ:af jS)(MK:af rk)(yj:af fO)(EJ:af lK)(tL:af fx)(raw:(List (List Int))×(List Int)×Int×(List Int)×Unit):Option (Bool):=
 MJ.bind fun r0=>
 bif (!r0) then
  some false
 else
  (MK (raw.1,(raw.2.1,(raw.2.2.1,(raw.2.2.2.1,())))) 30).bind fun r1=>
  (yj (r1.1,(r1.2.1,()))).bind fun r2=>
  (EJ (r1.1,(r1.2.1,()))).bind fun r3=>
  (tL (r1.1,(r1.2.1,()))).bind fun r4=>
  gM r2.2.2 r3.2.2 r4.2.2 0 r2.1 (r2.1.length:Int) 0 r2.2.1.1 r2.2.1.2.1 r3.2.1.1 r3.2.1.2.1 r4.2.1.1 r4.2.1.2.1
theorem FD (raw):qC raw=vN cS jS rk fO lK fx raw:=(e1 10 _).trans (by kernel_rfl)
def B9 (lV:af kd)(yj:af fO)(EJ:af lK)(tL:af fx)(GX:af qD)(oh:af iK)(Jp:af vt)(uG:af gP):Option (Bool):=
 let e0:dk:=([(0,((-1),())),(1,(3,())),(2,(4,())),(5,(6,()))]:dk)
 lV.bind fun r1=>
 (yj (r1.1,(r1.2.1,()))).bind fun r2=>
 lV.bind fun r3=>
 (EJ (r3.1,(r3.2.1,()))).bind fun r4=>
 lV.bind fun r5=>
 (tL (r5.1,(r5.2.1,()))).bind fun r6=>
 lV.bind fun r7=>
 (GX (r7.1,(r7.2.1,()))).bind fun r8=>
 bif (r2.2.2==0) then
  bif (r4.2.2==0) then
   bif (r6.2.2==0) then
    bif (r8.2==0) then
     (oh r2.1 e0).bind fun r9=>
     bif r9 then
      (oh r4.1 e0).bind fun NC=>
      bif NC then
       (oh r6.1 e0).bind fun r11=>
       bif r11 then
        bif (Dj yT (r2.2.1.1,(r2.2.1.2.1,())) (2,(0,()))) then
         bif (Dj yT (r4.2.1.1,(r4.2.1.2.1,())) (0,(3,()))) then
          bif (Dj yT (r6.2.1.1,(r6.2.1.2.1,())) (2,(3,()))) then
           bif ((r8.1.2.1.length:Int)==7) then
            (idx r8.1.2.1 0).bind fun v12=>
            bif (v12.1==2) then
             (idx r8.1.2.1 1).bind fun v13=>
             bif (v13.2.1.toList==(bs [45,50]).toList) then
              (idx r8.1.2.1 1).bind fun v14=>
              (Jp ([0,(2:Int)]:List Int)).bind fun r15=>
              (uG v14.2.2.1 r15).bind fun r16=>
              bif r16 then
               (idx r8.1.2.1 4).bind fun v17=>
               bif (v17.1==4) then
                (idx r8.1.2.1 4).bind fun v18=>
                bif (v18.2.1.toList==(bs [45,49,47,50]).toList) then
                 (idx r8.1.2.1 4).bind fun v19=>
                 let e20:List Int:=([1,(1:Int),(2:Int),(1:Int)]:List Int)
                 (Jp e20).bind fun r21=>
                 (uG v19.2.2.1 r21).bind fun r22=>
                 some r22
                else
                 some false
               else
                some false
              else
               some false
             else
              some false
            else
             some false
           else
            some false
          else
           some false
         else
          some false
        else
         some false
       else
        some false
      else
       some false
     else
      some false
    else
     some false
   else
    some false
  else
   some false
 else
  some false
theorem KW:jS=B9 kd fO lK fx qD iK vt gP:=(DB T B lf 13 ()).trans (by kernel_rfl)
def zk (Aj:af jH):Option mJ:=
 let e0:List ((List Int)×ByteArray×Unit):=([(([0]:List Int),((bs [48]),())),(([1]:List Int),((bs [48]),())),(([2]:List Int),((bs [49,47,50]),())),(([0,(1:Int)]:List Int),((bs [49]),())),(([1,(2:Int)]:List Int),((bs [49]),())),(([0,(2:Int)]:List Int),((bs [50]),())),(([0,(1:Int),(2:Int)]:List Int),((bs [51]),()))]:List ((List Int)×ByteArray×Unit))
 (Aj e0 3).bind fun r1=>
 some (r1.1.1,(r1.1.2.1,()))
theorem Im:kd=zk jH:=(DB T B lf 28 ()).trans (by kernel_rfl)
def DN (vO:af jg)(l:List Int)(i:Int)(out:dk):Option dk:=
 bif (decide ((IntKind.wrap .i64 (i+1))<(l.length:Int))) then
  (idx l i).bind fun v0=>
  (idx l (IntKind.wrap .i64 (i+1))).bind fun v1=>
  bif (aG 16 2 out.length 1) then
  let e2:dk:=(out++([(v0,(v1,()))]:dk))
  vO l (IntKind.wrap .i64 (i+2)) e2
  else none
 else
  some out
theorem ML (l i out):jg l i out=DN jg l i out:=(l1 31 0 _).trans (by kernel_rfl)
def Jq (vO:af jg)(l:List Int):Option dk:=
 vO l 0 ([]:dk)
theorem RO (l):vt l=Jq jg l:=(e1 31 _).trans (by kernel_rfl)
end
noncomputable section
def pC (al:af au)(az:af ar)(a:ByteArray):Option (ByteArray):=
 (al a).bind fun r0=>
 (az (!r0.1) r0.2).bind fun r1=>
 some r1
theorem vP (a):dv a=pC au ar a:=(e1 66 _).trans (by kernel_rfl)
def qO (al:af au)(fP:af dm)(a:ByteArray)(b:ByteArray):Option (Int):=
 (al a).bind fun r0=>
 (al b).bind fun r1=>
 bif (!(r0.1==r1.1)) then
  bif r0.1 then
   some (-1)
  else
   some 1
 else
  bif r0.1 then
   (fP r1.2 r0.2).bind fun r2=>
   some r2
  else
   (fP r0.2 r1.2).bind fun r3=>
   some r3
theorem xd (a b):bP a b=qO au dm a b:=(e1 104 _).trans (by kernel_rfl)
def kJ (pD:af dw)(pE:af cO)(p:Bool)(x:List Int)(q:Bool)(y:List Int)(i:Int)(out:List Int):Option (ByteArray):=
 bif (decide (i<(x.length:Int))) then
  pD p x q y i 0 out
 else
  pE p q 0 out
theorem oi (p x q y i out):bC p x q y i out=kJ dw cO p x q y i out:=(l1 105 0 _).trans (by kernel_rfl)
def kK (pD:af dw)(kL:af bC)(p:Bool)(x:List Int)(q:Bool)(y:List Int)(i:Int)(k:Int)(out:List Int):Option (ByteArray):=
 bif (decide (k<(y.length:Int))) then
  (idx out (IntKind.wrap .i64 (i+k))).bind fun _=>
  (out[(IntKind.wrap .i64 (i+k)).toNat]?).bind fun v0=>
  (idx x i).bind fun v1=>
  (idx y k).bind fun v2=>
  let e3:Int:=(IntKind.wrap .i64 (v0+(IntKind.wrap .i64 (v1*v2))))
  (idx out (IntKind.wrap .i64 (i+k))).bind fun _=>
  (out[(IntKind.wrap .i64 (i+k)).toNat]?).bind fun v4=>
  pD p x q y i (IntKind.wrap .i64 (k+1)) (out.set (IntKind.wrap .i64 (i+k)).toNat e3)
 else
  kL p x q y (IntKind.wrap .i64 (i+1)) out
theorem oo (p x q y i k out):dw p x q y i k out=kK dw bC p x q y i k out:=(l1 105 1 _).trans (by kernel_rfl)
def kM (pE:af cO)(az:af ar)(p:Bool)(q:Bool)(i:Int)(out:List Int):Option (ByteArray):=
 bif (decide ((IntKind.wrap .i64 (i+1))<(out.length:Int))) then
  (idx out (IntKind.wrap .i64 (i+1))).bind fun _=>
  (out[(IntKind.wrap .i64 (i+1)).toNat]?).bind fun v0=>
  (idx out i).bind fun _=>
  (out[i.toNat]?).bind fun v1=>
  let e2:Int:=(IntKind.wrap .i64 (v0+(IntKind.wrap .i64 (v1.tdiv 10))))
  (idx out (IntKind.wrap .i64 (i+1))).bind fun _=>
  (out[(IntKind.wrap .i64 (i+1)).toNat]?).bind fun v3=>
  let e4:List Int:=(out.set (IntKind.wrap .i64 (i+1)).toNat e2)
  (idx e4 i).bind fun _=>
  (e4[i.toNat]?).bind fun v5=>
  (idx e4 i).bind fun _=>
  (e4[i.toNat]?).bind fun v6=>
  pE p q (IntKind.wrap .i64 (i+1)) (e4.set i.toNat (v5.tmod 10))
 else
  (az (!(p==q)) out).bind fun r7=>
  some r7
theorem oq (p q i out):cO p q i out=kM cO ar p q i out:=(l1 105 2 _).trans (by kernel_rfl)
def tM (kL:af bC)(dY:af dp)(aT:af bL)(al:af au)(a:ByteArray)(b:ByteArray):Option (ByteArray):=
 (dY a).bind fun r0=>
 (dY b).bind fun r1=>
 bif r0.2 then
  bif r1.2 then
   (aT (IntKind.wrap .i64 (r0.1*r1.1))).bind fun r2=>
   some r2
  else
   (al a).bind fun r3=>
   (al b).bind fun r4=>
   let e5:Int:=(IntKind.wrap .i64 ((r3.2.length:Int)+(r4.2.length:Int)))
   bif (je 8 (IntKind.wrap .i64 (e5+1)) (IntKind.wrap .i64 (e5+1))) then
   let e6:List Int:=(List.replicate (IntKind.wrap .i64 (e5+1)).toNat 0)
   kL r3.1 r3.2 r4.1 r4.2 0 e6
   else none
 else
  (al a).bind fun r7=>
  (al b).bind fun r8=>
  let e9:Int:=(IntKind.wrap .i64 ((r7.2.length:Int)+(r8.2.length:Int)))
  bif (je 8 (IntKind.wrap .i64 (e9+1)) (IntKind.wrap .i64 (e9+1))) then
  let ZQ:List Int:=(List.replicate (IntKind.wrap .i64 (e9+1)).toNat 0)
  kL r7.1 r7.2 r8.1 r8.2 0 ZQ
  else none
theorem AB (a b):fA a b=tM bC dp bL au a b:=(e1 105 _).trans (by kernel_rfl)
def jw (fQ:af c8)(cZ:af bk)(a:ByteArray)(minus:Bool)(i:Int)(d:List Int):Option (Bool×List Int):=
 bif (decide (i≥0)) then
  (zQ a i).bind fun v0=>
  bif (v0 != 45) then
   (zQ a i).bind fun v1=>
   let e2:Int:=(IntKind.wrap .i64 ((IntKind.wrap .i64 v1) - 48))
   bif (aG 8 1 d.length 1) then
   fQ a minus (IntKind.wrap .i64 (i - 1)) (d++([e2]:List Int))
   else none
  else
   fQ a minus (IntKind.wrap .i64 (i - 1)) d
 else
  (cZ d).bind fun r3=>
  some (minus,r3)
theorem nx (a minus i d):c8 a minus i d=jw c8 bk a minus i d:=(l1 106 0 _).trans (by kernel_rfl)
def so (fQ:af c8)(a:ByteArray):Option (Bool×List Int):=
 bif (decide ((a.size:Int)>0)) then
  (zQ a 0).bind fun v0=>
  fQ a (v0==45) (IntKind.wrap .i64 ((a.size:Int) - 1)) ([]:List Int)
 else
  fQ a false (IntKind.wrap .i64 ((a.size:Int) - 1)) ([]:List Int)
theorem zl (a):au a=so c8 a:=(e1 106 _).trans (by kernel_rfl)
def lW (lX:af dQ)(d:List Int)(i:Int)(out:List Int):Option (ByteArray):=
 bif (decide (i≥0)) then
  (idx d i).bind fun v0=>
  let e1:Int:=(IntKind.wrap .u8 (IntKind.wrap .i64 (48+v0)))
  bif (aG 1 1 out.length 1) then
  lX d (IntKind.wrap .i64 (i - 1)) (out++([e1]:List Int))
  else none
 else
  some (strOf out)
theorem pF (d i out):dQ d i out=lW dQ d i out:=(l1 107 0 _).trans (by kernel_rfl)
def vQ (lX:af dQ)(cZ:af bk)(minus:Bool)(d:List Int):Option (ByteArray):=
 (cZ d).bind fun r0=>
 bif ((r0.length:Int)==0) then
  some (bs [48])
 else
  bif minus then
   bif (aG 1 1 0 1) then
   let e1:Int:=(IntKind.wrap .i64 ((r0.length:Int) - 1))
   lX r0 e1 (([]:List Int)++([45]:List Int))
   else none
  else
   let e2:Int:=(IntKind.wrap .i64 ((r0.length:Int) - 1))
   lX r0 e2 ([]:List Int)
theorem Ca (minus d):ar minus d=vQ dQ bk minus d:=(e1 107 _).trans (by kernel_rfl)
def jx (ot:af da)(az:af ar)(q:Int)(d:List Int):Option (ByteArray):=
 bif (decide (q>0)) then
  bif (aG 8 1 d.length 1) then
  ot (IntKind.wrap .i64 (q.tdiv 10)) (d++([(q.tmod 10)]:List Int))
  else none
 else
  (az true d).bind fun r0=>
  some r0
theorem ny (q d):da q d=jx da ar q d:=(l1 139 0 _).trans (by kernel_rfl)
def jy (ou:af db)(az:af ar)(n:Int)(d:List Int):Option (ByteArray):=
 bif (decide (n>0)) then
  bif (aG 8 1 d.length 1) then
  ou (IntKind.wrap .i64 (n.tdiv 10)) (d++([(n.tmod 10)]:List Int))
  else none
 else
  (az false d).bind fun r0=>
  some r0
theorem nz (n d):db n d=jy db ar n d:=(l1 139 1 _).trans (by kernel_rfl)
def sq (ot:af da)(ou:af db)(n:Int):Option (ByteArray):=
 bif (decide (n<0)) then
  let e0:List Int:=([(IntKind.wrap .i64 (0 - (n.tmod 10)))]:List Int)
  bif (aG 8 1 0 1) then
  let e1:Int:=(IntKind.wrap .i64 (0 - (IntKind.wrap .i64 (n.tdiv 10))))
  ot e1 (([]:List Int)++e0)
  else none
 else
  ou n ([]:List Int)
theorem zm (n):bL n=sq da db n:=(e1 139 _).trans (by kernel_rfl)
def vR (sr:af eO)(a:ByteArray):Option (Bool):=
 (sr a).bind fun r0=>
 some (decide (r0>1000))
theorem Cb (a):jm a=vR eO a:=(e1 143 _).trans (by kernel_rfl)
def kN (bz:af cP)(s:ByteArray)(i:Int):Option (Bool):=
 bif (decide (i<(s.size:Int))) then
  (zQ s i).bind fun v0=>
  bif (decide (v0<48)) then
   some false
  else
   (zQ s i).bind fun v1=>
   bif (decide (v1>57)) then
    some false
   else
    bz s (IntKind.wrap .i64 (i+1))
 else
  some true
theorem ov (s i):cP s i=kN cP s i:=(l1 144 0 _).trans (by kernel_rfl)
def tN (bz:af cP)(a:ByteArray):Option (Bool):=
 bif (decide ((a.size:Int)>0)) then
  (zQ a 0).bind fun v0=>
  bif (v0==45) then
   bif (di a.size 1 (a.size:Int)) then
   let e1:Int:=((a.extract (1:Int).toNat (a.size:Int).toNat).size:Int)
   bif (decide (e1>0)) then
    (zQ (a.extract (1:Int).toNat (a.size:Int).toNat) 0).bind fun v2=>
    bif (v2==48) then
     some false
    else
     let e3:Int:=((a.extract (1:Int).toNat (a.size:Int).toNat).size:Int)
     bif (e3==0) then
      some false
     else
      (zQ (a.extract (1:Int).toNat (a.size:Int).toNat) 0).bind fun v4=>
      bif (v4==48) then
       let e5:Int:=((a.extract (1:Int).toNat (a.size:Int).toNat).size:Int)
       bif (decide (e5>1)) then
        some false
       else
        bz (a.extract (1:Int).toNat (a.size:Int).toNat) 0
      else
       bz (a.extract (1:Int).toNat (a.size:Int).toNat) 0
   else
    let e6:Int:=((a.extract (1:Int).toNat (a.size:Int).toNat).size:Int)
    bif (e6==0) then
     some false
    else
     (zQ (a.extract (1:Int).toNat (a.size:Int).toNat) 0).bind fun v7=>
     bif (v7==48) then
      let e8:Int:=((a.extract (1:Int).toNat (a.size:Int).toNat).size:Int)
      bif (decide (e8>1)) then
       some false
      else
       bz (a.extract (1:Int).toNat (a.size:Int).toNat) 0
     else
      bz (a.extract (1:Int).toNat (a.size:Int).toNat) 0
   else none
  else
   bif ((a.size:Int)==0) then
    some false
   else
    (zQ a 0).bind fun v9=>
    bif (v9==48) then
     bif (decide ((a.size:Int)>1)) then
      some false
     else
      bz a 0
    else
     bz a 0
 else
  bif ((a.size:Int)==0) then
   some false
  else
   (zQ a 0).bind fun v10=>
   bif (v10==48) then
    bif (decide ((a.size:Int)>1)) then
     some false
    else
     bz a 0
   else
    bz a 0
theorem AD (a):jZ a=tN cP a:=(e1 144 _).trans (by kernel_rfl)
def nA (nB:af cI)(eV:af dB)(x:ByteArray)(y:ByteArray):Option (ByteArray):=
 bif (!(y.toList==(bs [48]).toList)) then
  (eV x y).bind fun r0=>
  nB y r0.2
 else
  some x
theorem sZ (x y):cI x y=nA cI dB x y:=(l1 145 0 _).trans (by kernel_rfl)
def qP (nB:af cI)(xe:af gm)(a:ByteArray)(b:ByteArray):Option (ByteArray):=
 (xe a).bind fun r0=>
 (xe b).bind fun r1=>
 nB r0 r1
theorem xf (a b):dS a b=qP cI gm a b:=(e1 145 _).trans (by kernel_rfl)
def lY (qQ:af dT)(a:List Int)(b:List Int)(i:Int):Option (Int):=
 bif (decide (i≥0)) then
  (idx a i).bind fun v0=>
  (idx b i).bind fun v1=>
  bif (decide (v0<v1)) then
   some (-1)
  else
   (idx a i).bind fun v2=>
   (idx b i).bind fun v3=>
   bif (decide (v2>v3)) then
    some 1
   else
    qQ a b (IntKind.wrap .i64 (i - 1))
 else
  some 0
theorem pG (a b i):dT a b i=lY dT a b i:=(l1 146 0 _).trans (by kernel_rfl)
def vS (qQ:af dT)(a:List Int)(b:List Int):Option (Int):=
 bif ((a.length:Int) != (b.length:Int)) then
  bif (decide ((a.length:Int)<(b.length:Int))) then
   some (-1)
  else
   some 1
 else
  let e0:Int:=(IntKind.wrap .i64 ((a.length:Int) - 1))
  qQ a b e0
theorem Cc (a b):dm a b=vS dT a b:=(e1 146 _).trans (by kernel_rfl)
def kO (kP:af dz)(a:ByteArray)(n:Int)(i:Int):Option (Int×Bool):=
 bif (decide (i<(a.size:Int))) then
  (zQ a i).bind fun v0=>
  bif (v0 != 45) then
   (zQ a i).bind fun v1=>
   let e2:Int:=(IntKind.wrap .i64 ((IntKind.wrap .i64 (10*n))+(IntKind.wrap .i64 v1)))
   kP a (IntKind.wrap .i64 (e2 - 48)) (IntKind.wrap .i64 (i+1))
  else
   kP a n (IntKind.wrap .i64 (i+1))
 else
  bif (decide ((a.size:Int)>0)) then
   (zQ a 0).bind fun v3=>
   bif (v3==45) then
    some ((IntKind.wrap .i64 (0 - n)),true)
   else
    some (n,true)
  else
   some (n,true)
theorem ow (a n i):dz a n i=kO dz a n i:=(l1 147 0 _).trans (by kernel_rfl)
def tO (kP:af dz)(sr:af eO)(a:ByteArray):Option (Int×Bool):=
 (sr a).bind fun r0=>
 bif (decide (r0>9)) then
  some (0,false)
 else
  kP a 0 0
theorem AE (a):dp a=tO dz eO a:=(e1 147 _).trans (by kernel_rfl)
def lZ (qR:af dV)(d:List Int):Option (List Int):=
 bif (decide ((d.length:Int)>0)) then
  let e0:Int:=(IntKind.wrap .i64 ((d.length:Int) - 1))
  (idx d e0).bind fun v1=>
  bif (v1==0) then
   let e2:Int:=(IntKind.wrap .i64 ((d.length:Int) - 1))
   bif (di d.length 0 e2) then
   qR (cut d 0 e2)
   else none
  else
   some d
 else
  some d
theorem pH (d):dV d=lZ dV d:=(l1 148 0 _).trans (by kernel_rfl)
def vT (qR:af dV)(d:List Int):Option (List Int):=
 qR d
theorem Cd (d):bk d=vT dV d:=(e1 148 _).trans (by kernel_rfl)
def iz (mz:af cz)(mA:af aI)(cZ:af bk)(b:ByteArray)(p:Bool)(x:List Int)(s:Bool)(y:List Int)(r:List Int)(i:Int)(q:List Int):Option (ByteArray×ByteArray):=
 bif (decide (i≥0)) then
  (idx x i).bind fun v0=>
  bif (aG 8 1 1 r.length) then
  (cZ (([v0]:List Int)++r)).bind fun r1=>
  mz b p x s y r1 i 0 q
  else none
 else
  mA b p s r 0 q
theorem ly (b p x s y r i q):bo b p x s y r i q=iz cz aI bk b p x s y r i q:=(l1 161 0 _).trans (by kernel_rfl)
def mB (mz:af cz)(iA:af bo)(fP:af dm)(dL:af aZ)(b:ByteArray)(p:Bool)(x:List Int)(s:Bool)(y:List Int)(r:List Int)(i:Int)(k:Int)(q:List Int):Option (ByteArray×ByteArray):=
 (fP r y).bind fun r0=>
 bif (decide (r0≥0)) then
  (dL r y).bind fun r1=>
  mz b p x s y r1 i (IntKind.wrap .i64 (k+1)) q
 else
  bif (aG 8 1 q.length 1) then
  iA b p x s y r (IntKind.wrap .i64 (i - 1)) (q++([k]:List Int))
  else none
theorem rR (b p x s y r i k q):cz b p x s y r i k q=mB cz bo dm aZ b p x s y r i k q:=(l1 161 1 _).trans (by kernel_rfl)
def iB (mA:af aI)(az:af ar)(MM:af j0)(vU:af gw)(b:ByteArray)(p:Bool)(s:Bool)(r:List Int)(i:Int)(q:List Int):Option (ByteArray×ByteArray):=
 let e0:Int:=(IntKind.wrap .i64 ((q.length:Int).tdiv 2))
 bif (decide (i<e0)) then
  let e1:Int:=(IntKind.wrap .i64 ((q.length:Int) - 1))
  let e2:Int:=(IntKind.wrap .i64 ((q.length:Int) - 1))
  (idx q (IntKind.wrap .i64 (e2 - i))).bind fun _=>
  (q[(IntKind.wrap .i64 (e2 - i)).toNat]?).bind fun v3=>
  (idx q i).bind fun _=>
  (q[i.toNat]?).bind fun v4=>
  (idx q i).bind fun _=>
  (q[i.toNat]?).bind fun v5=>
  (idx (q.set i.toNat v3) (IntKind.wrap .i64 (e1 - i))).bind fun _=>
  ((q.set i.toNat v3)[(IntKind.wrap .i64 (e1 - i)).toNat]?).bind fun v6=>
  let e7:List Int:=((q.set i.toNat v3).set (IntKind.wrap .i64 (e1 - i)).toNat v4)
  mA b p s r (IntKind.wrap .i64 (i+1)) e7
 else
  (az (!(p==s)) q).bind fun r8=>
  (az p r).bind fun r9=>
  bif (!(r9.toList==(bs [48]).toList)) then
   bif (!(p==s)) then
    (MM r8 (bs [49])).bind fun NC=>
    (vU r9 b).bind fun r11=>
    some (NC,r11)
   else
    some (r8,r9)
  else
   some (r8,r9)
theorem lz (b p s r i q):aI b p s r i q=iB aI ar j0 gw b p s r i q:=(l1 161 2 _).trans (by kernel_rfl)
def pI (iA:af bo)(dY:af dp)(aT:af bL)(al:af au)(cZ:af bk)(a:ByteArray)(b:ByteArray):Option (ByteArray×ByteArray):=
 (dY a).bind fun r0=>
 (dY b).bind fun r1=>
 bif r0.2 then
  bif r1.2 then
   bif (!(r1.1==0)) then
   bif (!(r1.1==0)) then
   bif ((r0.1.tmod r1.1) != 0) then
    bif (!((decide ((r0.1.tmod r1.1)<0))==(decide (r1.1<0)))) then
     let e2:Int:=(IntKind.wrap .i64 ((IntKind.wrap .i64 (r0.1.tdiv r1.1)) - 1))
     (aT e2).bind fun r3=>
     (aT (IntKind.wrap .i64 ((r0.1.tmod r1.1)+r1.1))).bind fun r4=>
     some (r3,r4)
    else
     (aT (IntKind.wrap .i64 (r0.1.tdiv r1.1))).bind fun r5=>
     (aT (r0.1.tmod r1.1)).bind fun r6=>
     some (r5,r6)
   else
    (aT (IntKind.wrap .i64 (r0.1.tdiv r1.1))).bind fun r7=>
    (aT (r0.1.tmod r1.1)).bind fun r8=>
    some (r7,r8)
   else none
   else none
  else
   (al a).bind fun r9=>
   (al b).bind fun NC=>
   let U8:Int:=(IntKind.wrap .i64 ((NC.2.length:Int) - 1))
   let e12:Int:=(bif decide (U8>0) then U8 else 0)
   let XN:Int:=(bif decide ((IntKind.wrap .i64 ((r9.2.length:Int) - e12))>0) then (IntKind.wrap .i64 ((r9.2.length:Int) - e12)) else 0)
   bif (di r9.2.length XN (r9.2.length:Int)) then
   bif (aG 8 1 0 (cut r9.2 XN (r9.2.length:Int)).length) then
   let e14:List Int:=(([]:List Int)++(cut r9.2 XN (r9.2.length:Int)))
   (cZ e14).bind fun r15=>
   iA b r9.1 r9.2 NC.1 NC.2 r15 (IntKind.wrap .i64 (XN - 1)) ([]:List Int)
   else none
   else none
 else
  (al a).bind fun r16=>
  (al b).bind fun r17=>
  let e18:Int:=(IntKind.wrap .i64 ((r17.2.length:Int) - 1))
  let e19:Int:=(bif decide (e18>0) then e18 else 0)
  let e20:Int:=(bif decide ((IntKind.wrap .i64 ((r16.2.length:Int) - e19))>0) then (IntKind.wrap .i64 ((r16.2.length:Int) - e19)) else 0)
  bif (di r16.2.length e20 (r16.2.length:Int)) then
  bif (aG 8 1 0 (cut r16.2 e20 (r16.2.length:Int)).length) then
  let e21:List Int:=(([]:List Int)++(cut r16.2 e20 (r16.2.length:Int)))
  (cZ e21).bind fun r22=>
  iA b r16.1 r16.2 r17.1 r17.2 r22 (IntKind.wrap .i64 (e20 - 1)) ([]:List Int)
  else none
  else none
theorem vV (a b):dB a b=pI bo dp bL au bk a b:=(e1 161 _).trans (by kernel_rfl)
def su (a:ByteArray):Option (Int):=
 bif (decide ((a.size:Int)>0)) then
  (zQ a 0).bind fun v0=>
  bif (v0==45) then
   some (IntKind.wrap .i64 ((a.size:Int) - 1))
  else
   some (a.size:Int)
 else
  some (a.size:Int)
theorem zn (a):eO a=su a:=(e1 162 _).trans (by kernel_rfl)
def pJ (al:af au)(az:af ar)(a:ByteArray):Option (ByteArray):=
 (al a).bind fun r0=>
 (az false r0.2).bind fun r1=>
 some r1
theorem vW (a):gm a=pJ au ar a:=(e1 163 _).trans (by kernel_rfl)
def fR (cW:af bF)(cZ:af bk)(a:List Int)(b:List Int)(borrow:Int)(i:Int)(out:List Int):Option (List Int):=
 bif (decide (i<(a.length:Int))) then
  (idx a i).bind fun v0=>
  bif (decide (i<(b.length:Int))) then
   (idx b i).bind fun v1=>
   let e2:Int:=(IntKind.wrap .i64 ((IntKind.wrap .i64 (v0 - borrow)) - v1))
   bif (decide (e2<0)) then
    let e3:List Int:=([(IntKind.wrap .i64 (e2+10))]:List Int)
    bif (aG 8 1 out.length 1) then
    cW a b 1 (IntKind.wrap .i64 (i+1)) (out++e3)
    else none
   else
    bif (aG 8 1 out.length 1) then
    cW a b 0 (IntKind.wrap .i64 (i+1)) (out++([e2]:List Int))
    else none
  else
   bif (decide ((IntKind.wrap .i64 (v0 - borrow))<0)) then
    let e4:Int:=(IntKind.wrap .i64 ((IntKind.wrap .i64 (v0 - borrow))+10))
    bif (aG 8 1 out.length 1) then
    cW a b 1 (IntKind.wrap .i64 (i+1)) (out++([e4]:List Int))
    else none
   else
    bif (aG 8 1 out.length 1) then
    let e5:List Int:=(out++([(IntKind.wrap .i64 (v0 - borrow))]:List Int))
    cW a b 0 (IntKind.wrap .i64 (i+1)) e5
    else none
 else
  (cZ out).bind fun r6=>
  some r6
theorem jz (a b borrow i out):bF a b borrow i out=fR bF bk a b borrow i out:=(l1 173 0 _).trans (by kernel_rfl)
def nC (cW:af bF)(a:List Int)(b:List Int):Option (List Int):=
 cW a b 0 0 ([]:List Int)
theorem s0 (a b):aZ a b=nC bF a b:=(e1 173 _).trans (by kernel_rfl)
def tQ (kQ:af dv)(vU:af gw)(a:ByteArray)(b:ByteArray):Option (ByteArray):=
 (kQ b).bind fun r0=>
 (vU a r0).bind fun r1=>
 some r1
theorem AF (a b):j0 a b=tQ dv gw a b:=(e1 174 _).trans (by kernel_rfl)
def vX (dY:af dp)(aT:af bL)(al:af au)(FE:af iN)(az:af ar)(fP:af dm)(dL:af aZ)(a:ByteArray)(b:ByteArray):Option (ByteArray):=
 (dY a).bind fun r0=>
 (dY b).bind fun r1=>
 bif r0.2 then
  bif r1.2 then
   (aT (IntKind.wrap .i64 (r0.1+r1.1))).bind fun r2=>
   some r2
  else
   (al a).bind fun r3=>
   (al b).bind fun r4=>
   bif (r3.1==r4.1) then
    (FE r3.2 r4.2).bind fun r5=>
    (az r3.1 r5).bind fun r6=>
    some r6
   else
    (fP r3.2 r4.2).bind fun r7=>
    bif (decide (r7<0)) then
     (dL r4.2 r3.2).bind fun r8=>
     (az r4.1 r8).bind fun r9=>
     some r9
    else
     (dL r3.2 r4.2).bind fun NC=>
     (az r3.1 NC).bind fun r11=>
     some r11
 else
  (al a).bind fun r12=>
  (al b).bind fun r13=>
  bif (r12.1==r13.1) then
   (FE r12.2 r13.2).bind fun r14=>
   (az r12.1 r14).bind fun r15=>
   some r15
  else
   (fP r12.2 r13.2).bind fun r16=>
   bif (decide (r16<0)) then
    (dL r13.2 r12.2).bind fun r17=>
    (az r13.1 r17).bind fun r18=>
    some r18
   else
    (dL r12.2 r13.2).bind fun r19=>
    (az r12.1 r19).bind fun r20=>
    some r20
theorem Cf (a b):gw a b=vX dp bL au iN ar dm aZ a b:=(e1 175 _).trans (by kernel_rfl)
def jo (aM:af eP)(a:List Int)(b:List Int)(carry:Int)(i:Int)(out:List Int):Option (List Int):=
 bif (decide (i<(a.length:Int))) then
  bif (decide (i<(a.length:Int))) then
   (idx a i).bind fun v0=>
   bif (decide (i<(b.length:Int))) then
    (idx b i).bind fun v1=>
    let e2:Int:=(IntKind.wrap .i64 ((IntKind.wrap .i64 (carry+v0))+v1))
    bif (aG 8 1 out.length 1) then
    aM a b (IntKind.wrap .i64 (e2.tdiv 10)) (IntKind.wrap .i64 (i+1)) (out++([(e2.tmod 10)]:List Int))
    else none
   else
    let e3:Int:=((IntKind.wrap .i64 (carry+v0)).tmod 10)
    bif (aG 8 1 out.length 1) then
    let e4:Int:=(IntKind.wrap .i64 ((IntKind.wrap .i64 (carry+v0)).tdiv 10))
    aM a b e4 (IntKind.wrap .i64 (i+1)) (out++([e3]:List Int))
    else none
  else
   bif (decide (i<(b.length:Int))) then
    (idx b i).bind fun v5=>
    let e6:Int:=((IntKind.wrap .i64 (carry+v5)).tmod 10)
    bif (aG 8 1 out.length 1) then
    let e7:Int:=(IntKind.wrap .i64 ((IntKind.wrap .i64 (carry+v5)).tdiv 10))
    aM a b e7 (IntKind.wrap .i64 (i+1)) (out++([e6]:List Int))
    else none
   else
    bif (aG 8 1 out.length 1) then
    aM a b (IntKind.wrap .i64 (carry.tdiv 10)) (IntKind.wrap .i64 (i+1)) (out++([(carry.tmod 10)]:List Int))
    else none
 else
  bif (decide (i<(b.length:Int))) then
   bif (decide (i<(a.length:Int))) then
    (idx a i).bind fun v8=>
    bif (decide (i<(b.length:Int))) then
     (idx b i).bind fun v9=>
     let ZQ:Int:=(IntKind.wrap .i64 ((IntKind.wrap .i64 (carry+v8))+v9))
     bif (aG 8 1 out.length 1) then
     aM a b (IntKind.wrap .i64 (ZQ.tdiv 10)) (IntKind.wrap .i64 (i+1)) (out++([(ZQ.tmod 10)]:List Int))
     else none
    else
     let U8:Int:=((IntKind.wrap .i64 (carry+v8)).tmod 10)
     bif (aG 8 1 out.length 1) then
     let e12:Int:=(IntKind.wrap .i64 ((IntKind.wrap .i64 (carry+v8)).tdiv 10))
     aM a b e12 (IntKind.wrap .i64 (i+1)) (out++([U8]:List Int))
     else none
   else
    bif (decide (i<(b.length:Int))) then
     (idx b i).bind fun v13=>
     let e14:Int:=((IntKind.wrap .i64 (carry+v13)).tmod 10)
     bif (aG 8 1 out.length 1) then
     let e15:Int:=(IntKind.wrap .i64 ((IntKind.wrap .i64 (carry+v13)).tdiv 10))
     aM a b e15 (IntKind.wrap .i64 (i+1)) (out++([e14]:List Int))
     else none
    else
     bif (aG 8 1 out.length 1) then
     aM a b (IntKind.wrap .i64 (carry.tdiv 10)) (IntKind.wrap .i64 (i+1)) (out++([(carry.tmod 10)]:List Int))
     else none
  else
   bif (decide (carry>0)) then
    bif (decide (i<(a.length:Int))) then
     (idx a i).bind fun v16=>
     bif (decide (i<(b.length:Int))) then
      (idx b i).bind fun v17=>
      let e18:Int:=(IntKind.wrap .i64 ((IntKind.wrap .i64 (carry+v16))+v17))
      bif (aG 8 1 out.length 1) then
      aM a b (IntKind.wrap .i64 (e18.tdiv 10)) (IntKind.wrap .i64 (i+1)) (out++([(e18.tmod 10)]:List Int))
      else none
     else
      let e19:Int:=((IntKind.wrap .i64 (carry+v16)).tmod 10)
      bif (aG 8 1 out.length 1) then
      let e20:Int:=(IntKind.wrap .i64 ((IntKind.wrap .i64 (carry+v16)).tdiv 10))
      aM a b e20 (IntKind.wrap .i64 (i+1)) (out++([e19]:List Int))
      else none
    else
     bif (decide (i<(b.length:Int))) then
      (idx b i).bind fun v21=>
      let e22:Int:=((IntKind.wrap .i64 (carry+v21)).tmod 10)
      bif (aG 8 1 out.length 1) then
      let e23:Int:=(IntKind.wrap .i64 ((IntKind.wrap .i64 (carry+v21)).tdiv 10))
      aM a b e23 (IntKind.wrap .i64 (i+1)) (out++([e22]:List Int))
      else none
     else
      bif (aG 8 1 out.length 1) then
      aM a b (IntKind.wrap .i64 (carry.tdiv 10)) (IntKind.wrap .i64 (i+1)) (out++([(carry.tmod 10)]:List Int))
      else none
   else
    some out
theorem l7 (a b carry i out):eP a b carry i out=jo eP a b carry i out:=(l1 179 0 _).trans (by kernel_rfl)
def yk (aM:af eP)(a:List Int)(b:List Int):Option (List Int):=
 aM a b 0 0 ([]:List Int)
theorem DO (a b):iN a b=yk eP a b:=(e1 179 _).trans (by kernel_rfl)
end
noncomputable section
def tR (Ot:af lE)(RP:af pq)(a:ByteArray):Option (Bool):=
 (Ot a).bind fun r0=>
 bif (!r0) then
  (RP a).bind fun r1=>
  some r1
 else
  some false
theorem AG (a):fy a=tR lE pq a:=(e1 61 _).trans (by kernel_rfl)
def qS (dZ:af cV)(bG:af bP)(ed:af fA)(a:ByteArray)(b:ByteArray):Option (Int):=
 bif (a.toList==(bs [105,110,102]).toList) then
  bif (b.toList==(bs [105,110,102]).toList) then
   some 0
  else
   bif (a.toList==(bs [105,110,102]).toList) then
    some 1
   else
    bif (b.toList==(bs [105,110,102]).toList) then
     some (-1)
    else
     (dZ a).bind fun r0=>
     (dZ b).bind fun r1=>
     bif (r0.2.1.toList==(bs [49]).toList) then
      bif (r1.2.1.toList==(bs [49]).toList) then
       (bG r0.1 r1.1).bind fun r2=>
       some r2
      else
       (ed r0.1 r1.2.1).bind fun r3=>
       (ed r1.1 r0.2.1).bind fun r4=>
       (bG r3 r4).bind fun r5=>
       some r5
     else
      (ed r0.1 r1.2.1).bind fun r6=>
      (ed r1.1 r0.2.1).bind fun r7=>
      (bG r6 r7).bind fun r8=>
      some r8
 else
  bif (a.toList==(bs [105,110,102]).toList) then
   some 1
  else
   bif (b.toList==(bs [105,110,102]).toList) then
    some (-1)
   else
    (dZ a).bind fun r9=>
    (dZ b).bind fun NC=>
    bif (r9.2.1.toList==(bs [49]).toList) then
     bif (NC.2.1.toList==(bs [49]).toList) then
      (bG r9.1 NC.1).bind fun r11=>
      some r11
     else
      (ed r9.1 NC.2.1).bind fun r12=>
      (ed NC.1 r9.2.1).bind fun r13=>
      (bG r12 r13).bind fun r14=>
      some r14
    else
     (ed r9.1 NC.2.1).bind fun r15=>
     (ed NC.1 r9.2.1).bind fun r16=>
     (bG r15 r16).bind fun r17=>
     some r17
theorem xg (a b):bO a b=qS cV bP fA a b:=(e1 64 _).trans (by kernel_rfl)
def kR (pK:af du)(a:ByteArray)(i:Int):Option (ByteArray×ByteArray×Bool):=
 bif (decide (i<(a.size:Int))) then
  (zQ a i).bind fun v0=>
  bif (v0==47) then
   bif (di a.size 0 i) then
   bif (di a.size (IntKind.wrap .i64 (i+1)) (a.size:Int)) then
   let e1:ByteArray:=(a.extract (IntKind.wrap .i64 (i+1)).toNat (a.size:Int).toNat)
   some ((a.extract (0:Int).toNat i.toNat),e1,true)
   else none
   else none
  else
   pK a (IntKind.wrap .i64 (i+1))
 else
  some (a,(bs [49]),false)
theorem oz (a i):du a i=kR du a i:=(l1 65 0 _).trans (by kernel_rfl)
def tS (pK:af du)(a:ByteArray):Option (ByteArray×ByteArray×Bool):=
 pK a 0
theorem AH (a):cV a=tS du a:=(e1 65 _).trans (by kernel_rfl)
def xi (aT:af bL)(Jr:af kf)(a:Int)(b:Int):Option (ByteArray):=
 (aT a).bind fun r0=>
 (aT b).bind fun r1=>
 (Jr r0 r1).bind fun r2=>
 some r2
theorem G8 (a b):gg a b=xi bL kf a b:=(e1 95 _).trans (by kernel_rfl)
def vY (dZ:af cV)(DP:af jm)(a:ByteArray):Option (Bool):=
 (dZ a).bind fun r0=>
 (DP r0.1).bind fun r1=>
 bif r1 then
  some true
 else
  (DP r0.2.1).bind fun r2=>
  some r2
theorem Cg (a):lE a=vY cV jm a:=(e1 102 _).trans (by kernel_rfl)
def Ak (dZ:af cV)(Ch:af jZ)(bG:af bP)(l8:af dS)(a:ByteArray):Option (Bool):=
 (dZ a).bind fun r0=>
 (Ch r0.1).bind fun r1=>
 bif (!r1) then
  some false
 else
  bif (!r0.2.2) then
   some true
  else
   (Ch r0.2.1).bind fun r2=>
   bif r2 then
    bif (!(r0.1.toList==(bs [48]).toList)) then
     (bG r0.2.1 (bs [50])).bind fun r3=>
     bif (decide (r3≥0)) then
      (l8 r0.1 r0.2.1).bind fun r4=>
      some (r4.toList==(bs [49]).toList)
     else
      some false
    else
     some false
   else
    some false
theorem FF (a):pq a=Ak cV jZ bP dS a:=(e1 103 _).trans (by kernel_rfl)
def zo (bG:af bP)(kQ:af dv)(l8:af dS)(eV:af dB)(n:ByteArray)(d:ByteArray):Option (ByteArray):=
 (bG d (bs [48])).bind fun r0=>
 bif (decide (r0<0)) then
  (kQ n).bind fun r1=>
  (kQ d).bind fun r2=>
  (l8 r1 r2).bind fun r3=>
  bif (!(r3.toList==(bs [49]).toList)) then
   (eV r1 r3).bind fun r4=>
   (eV r2 r3).bind fun r5=>
   bif (r5.1.toList==(bs [49]).toList) then
    some r4.1
   else
    bif (Nat.ble (r4.1.size+(bs [47]).size) 9223372036854775807) then
    bif (Nat.ble ((r4.1++(bs [47])).size+r5.1.size) 9223372036854775807) then
    some ((r4.1++(bs [47]))++r5.1)
    else none
    else none
  else
   bif (r2.toList==(bs [49]).toList) then
    some r1
   else
    bif (Nat.ble (r1.size+(bs [47]).size) 9223372036854775807) then
    bif (Nat.ble ((r1++(bs [47])).size+r2.size) 9223372036854775807) then
    some ((r1++(bs [47]))++r2)
    else none
    else none
 else
  (l8 n d).bind fun r6=>
  bif (!(r6.toList==(bs [49]).toList)) then
   (eV n r6).bind fun r7=>
   (eV d r6).bind fun r8=>
   bif (r8.1.toList==(bs [49]).toList) then
    some r7.1
   else
    bif (Nat.ble (r7.1.size+(bs [47]).size) 9223372036854775807) then
    bif (Nat.ble ((r7.1++(bs [47])).size+r8.1.size) 9223372036854775807) then
    some ((r7.1++(bs [47]))++r8.1)
    else none
    else none
  else
   bif (d.toList==(bs [49]).toList) then
    some n
   else
    bif (Nat.ble (n.size+(bs [47]).size) 9223372036854775807) then
    bif (Nat.ble ((n++(bs [47])).size+d.size) 9223372036854775807) then
    some ((n++(bs [47]))++d)
    else none
    else none
theorem Io (n d):kf n d=zo bP dv dS dB n d:=(e1 138 _).trans (by kernel_rfl)
end
noncomputable section
def fS (oA:af c7)(Js:af ic)(s:List Int)(i:Int)(out:List (List Int)):Option (List (List Int)):=
 bif (decide ((s.length:Int)>1)) then
  bif (decide (i<(s.length:Int))) then
   (Js s i).bind fun r0=>
   bif (aG 24 1 out.length 1) then
   oA s (IntKind.wrap .i64 (i+1)) (out++([r0]:List (List Int)))
   else none
  else
   some out
 else
  some out
theorem ja (s i out):c7 s i out=fS c7 ic s i out:=(l1 58 0 _).trans (by kernel_rfl)
def sw (oA:af c7)(s:List Int):Option (List (List Int)):=
 oA s 0 ([]:List (List Int))
theorem zp (s):bK s=sw c7 s:=(e1 58 _).trans (by kernel_rfl)
def mQ (sx:af eL)(a:List Int)(b:List Int)(i:Int):Option (Int):=
 bif (decide (i<(a.length:Int))) then
  (idx a i).bind fun v0=>
  (idx b i).bind fun v1=>
  bif (decide (v0<v1)) then
   some (-1)
  else
   (idx a i).bind fun v2=>
   (idx b i).bind fun v3=>
   bif (decide (v2>v3)) then
    some 1
   else
    sx a b (IntKind.wrap .i64 (i+1))
 else
  some 0
theorem qT (a b i):eL a b i=mQ eL a b i:=(l1 59 0 _).trans (by kernel_rfl)
def yl (sx:af eL)(a:List Int)(b:List Int):Option (Int):=
 bif ((a.length:Int) != (b.length:Int)) then
  bif (decide ((a.length:Int)<(b.length:Int))) then
   some (-1)
  else
   some 1
 else
  sx a b 0
theorem DQ (a b):aY a b=yl eL a b:=(e1 59 _).trans (by kernel_rfl)
def pL (kS:af gf)(Al:af pw)(mR:af iW)(l:List Int)(most:Int)(n:Int)(i:Int)(out:List Int):Option (List Int):=
 bif (decide (i<(l.length:Int))) then
  bif (decide ((out.length:Int)<most)) then
   (idx l i).bind fun v0=>
   bif (!(n==0)) then
   bif (!(n==0)) then
   (Al out ((IntKind.wrap .i64 ((v0.tmod n)+n)).tmod n)).bind fun r1=>
   bif (!r1) then
    let e2:List Int:=([((IntKind.wrap .i64 ((v0.tmod n)+n)).tmod n)]:List Int)
    bif (aG 8 1 out.length 1) then
    kS l most n (IntKind.wrap .i64 (i+1)) (out++e2)
    else none
   else
    kS l most n (IntKind.wrap .i64 (i+1)) out
   else none
   else none
  else
   bif ((out.length:Int)==0) then
    bif (aG 8 1 out.length 1) then
    (mR (out++([0]:List Int))).bind fun r3=>
    some r3.1
    else none
   else
    (mR out).bind fun r4=>
    some r4.1
 else
  bif ((out.length:Int)==0) then
   bif (aG 8 1 out.length 1) then
   (mR (out++([0]:List Int))).bind fun r5=>
   some r5.1
   else none
  else
   (mR out).bind fun r6=>
   some r6.1
theorem vZ (l most n i out):gf l most n i out=pL gf pw iW l most n i out:=(l1 93 0 _).trans (by kernel_rfl)
def Ci (kS:af gf)(l:List Int)(most:Int)(n:Int):Option (List Int):=
 kS l most n 0 ([]:List Int)
theorem KX (l most n):rB l most n=Ci gf l most n:=(e1 93 _).trans (by kernel_rfl)
def sy (sA:af iU)(Al:af pw)(a:List Int)(b:List Int)(i:Int):Option (Bool):=
 bif (decide (i<(b.length:Int))) then
  (idx b i).bind fun v0=>
  (Al a v0).bind fun r1=>
  bif (!r1) then
   some false
  else
   sA a b (IntKind.wrap .i64 (i+1))
 else
  some true
theorem zq (a b i):iU a b i=sy iU pw a b i:=(l1 97 0 _).trans (by kernel_rfl)
def FG (sA:af iU)(a:List Int)(b:List Int):Option (Bool):=
 sA a b 0
theorem Ou (a b):vu a b=FG iU a b:=(e1 97 _).trans (by kernel_rfl)
def dM (jb:af bT)(s:List Int)(k:Int)(i:Int)(out:List Int):Option (List Int):=
 bif (decide (i<(s.length:Int))) then
  bif (i != k) then
   (idx s i).bind fun v0=>
   bif (aG 8 1 out.length 1) then
   jb s k (IntKind.wrap .i64 (i+1)) (out++([v0]:List Int))
   else none
  else
   jb s k (IntKind.wrap .i64 (i+1)) out
 else
  some out
theorem fg (s k i out):bT s k i out=dM bT s k i out:=(l1 101 0 _).trans (by kernel_rfl)
def qU (jb:af bT)(s:List Int)(k:Int):Option (List Int):=
 jb s k 0 ([]:List Int)
theorem xj (s k):ic s k=qU bT s k:=(e1 101 _).trans (by kernel_rfl)
def tT (tU:af jX)(a:List Int)(v:Int)(i:Int):Option (Bool):=
 bif (decide (i<(a.length:Int))) then
  (idx a i).bind fun v0=>
  bif (v0==v) then
   some true
  else
   tU a v (IntKind.wrap .i64 (i+1))
 else
  some false
theorem AI (a v i):jX a v i=tT jX a v i:=(l1 134 0 _).trans (by kernel_rfl)
def HI (tU:af jX)(a:List Int)(v:Int):Option (Bool):=
 tU a v 0
theorem P3 (a v):pw a v=HI jX a v:=(e1 134 _).trans (by kernel_rfl)
def oB (oC:af fC)(n:Int)(i:Int)(out:List Int):Option ((List Int)×Int):=
 bif (decide (i<(out.length:Int))) then
  oC n i i out
 else
  some (out,n)
theorem uH (n i out):dR n i out=oB fC n i out:=(l1 135 0 _).trans (by kernel_rfl)
def oD (oC:af fC)(jA:af dR)(n:Int)(i:Int)(k:Int)(out:List Int):Option ((List Int)×Int):=
 bif (decide (k>0)) then
  (idx out (IntKind.wrap .i64 (k - 1))).bind fun _=>
  (out[(IntKind.wrap .i64 (k - 1)).toNat]?).bind fun v0=>
  (idx out k).bind fun _=>
  (out[k.toNat]?).bind fun v1=>
  bif (decide (v0>v1)) then
   (idx out k).bind fun _=>
   (out[k.toNat]?).bind fun v2=>
   (idx out (IntKind.wrap .i64 (k - 1))).bind fun _=>
   (out[(IntKind.wrap .i64 (k - 1)).toNat]?).bind fun v3=>
   (idx out (IntKind.wrap .i64 (k - 1))).bind fun _=>
   (out[(IntKind.wrap .i64 (k - 1)).toNat]?).bind fun v4=>
   let e5:List Int:=(out.set (IntKind.wrap .i64 (k - 1)).toNat v2)
   (idx e5 k).bind fun _=>
   (e5[k.toNat]?).bind fun v6=>
   oC (IntKind.wrap .i64 (1 - n)) i (IntKind.wrap .i64 (k - 1)) (e5.set k.toNat v3)
  else
   jA n (IntKind.wrap .i64 (i+1)) out
 else
  jA n (IntKind.wrap .i64 (i+1)) out
theorem uI (n i k out):fC n i k out=oD fC dR n i k out:=(l1 135 1 _).trans (by kernel_rfl)
def AJ (jA:af dR)(l:List Int):Option ((List Int)×Int):=
 bif (aG 8 1 0 l.length) then
 jA 0 0 (([]:List Int)++l)
 else none
theorem Jt (l):iW l=AJ dR l:=(e1 135 _).trans (by kernel_rfl)
def xk (kT:af gi)(s:List Int)(m:Int)(out:List (List Int)):Option (List (List Int)):=
 bif (decide (0≤(s.length:Int))) then
 bif (decide (m<(shl .i64 1 (s.length:Int)))) then
  kT s m 0 out ([]:List Int)
 else
  some out
 else none
theorem G9 (s m out):rY s m out=xk gi s m out:=(l1 136 0 _).trans (by kernel_rfl)
def pM (kT:af gi)(oE:af c9)(ig:af fe)(s:List Int)(m:Int)(i:Int)(out:List (List Int))(f:List Int):Option (List (List Int)):=
 bif (decide (i<(s.length:Int))) then
  bif (decide (0≤i)) then
  bif (((shr .i64 m i).tmod 2)==1) then
   (idx s i).bind fun v0=>
   bif (aG 8 1 f.length 1) then
   kT s m (IntKind.wrap .i64 (i+1)) out (f++([v0]:List Int))
   else none
  else
   kT s m (IntKind.wrap .i64 (i+1)) out f
  else none
 else
  (ig out f).bind fun r1=>
  oE s r1 (IntKind.wrap .i64 (m+1))
theorem wa (s m i out f):gi s m i out f=pM gi c9 fe s m i out f:=(l1 136 1 _).trans (by kernel_rfl)
def oF (jB:af fD)(s:List Int)(out:List (List Int))(m:Int):Option (List (List Int)):=
 bif (decide (0≤(s.length:Int))) then
 bif (decide (m<(shl .i64 1 (s.length:Int)))) then
  jB s out m 0 ([]:List Int)
 else
  some out
 else none
theorem uJ (s out m):c9 s out m=oF fD s out m:=(l1 136 0 _).trans (by kernel_rfl)
def oG (jB:af fD)(oE:af c9)(ig:af fe)(s:List Int)(out:List (List Int))(m:Int)(i:Int)(f:List Int):Option (List (List Int)):=
 bif (decide (i<(s.length:Int))) then
  bif (decide (0≤i)) then
  bif (((shr .i64 m i).tmod 2)==1) then
   (idx s i).bind fun v0=>
   bif (aG 8 1 f.length 1) then
   jB s out m (IntKind.wrap .i64 (i+1)) (f++([v0]:List Int))
   else none
  else
   jB s out m (IntKind.wrap .i64 (i+1)) f
  else none
 else
  (ig out f).bind fun r1=>
  oE s r1 (IntKind.wrap .i64 (m+1))
theorem uK (s out m i f):fD s out m i f=oG fD c9 fe s out m i f:=(l1 136 1 _).trans (by kernel_rfl)
def Cj (Ip:af rY)(s:List Int):Option (List (List Int)):=
 Ip s 1 ([]:List (List Int))
theorem KY (s):jY s=Cj rY s:=(e1 136 _).trans (by kernel_rfl)
def sB (jq:af iX)(bg:af aY)(l:List (List Int))(s:List Int)(done:Bool)(i:Int)(out:List (List Int)):Option (List (List Int)):=
 bif (decide (i<(l.length:Int))) then
  (idx l i).bind fun v0=>
  (bg s v0).bind fun r1=>
  bif (r1==0) then
   some l
  else
   bif (decide (r1<0)) then
    bif (!done) then
     bif (aG 24 1 out.length 1) then
     (idx l i).bind fun v2=>
     bif (aG 24 1 (out++([s]:List (List Int))).length 1) then
     let e3:List (List Int):=((out++([s]:List (List Int)))++([v2]:List (List Int)))
     jq l s true (IntKind.wrap .i64 (i+1)) e3
     else none
     else none
    else
     (idx l i).bind fun v4=>
     bif (aG 24 1 out.length 1) then
     jq l s done (IntKind.wrap .i64 (i+1)) (out++([v4]:List (List Int)))
     else none
   else
    (idx l i).bind fun v5=>
    bif (aG 24 1 out.length 1) then
    jq l s done (IntKind.wrap .i64 (i+1)) (out++([v5]:List (List Int)))
    else none
 else
  bif (!done) then
   bif (aG 24 1 out.length 1) then
   some (out++([s]:List (List Int)))
   else none
  else
   some out
theorem zr (l s done i out):iX l s done i out=sB iX aY l s done i out:=(l1 137 0 _).trans (by kernel_rfl)
def FH (jq:af iX)(l:List (List Int))(s:List Int):Option (List (List Int)):=
 jq l s false 0 ([]:List (List Int))
theorem Ov (l s):fe l s=FH iX l s:=(e1 137 _).trans (by kernel_rfl)
def kU (pN:af dx)(pO:af dy)(s:List Int)(i:Int):Option (Int):=
 bif (decide (i<(s.length:Int))) then
  (idx s i).bind fun v0=>
  bif (decide (v0<0)) then
   some 1
  else
   (idx s i).bind fun v1=>
   bif (decide (v1≥64)) then
    some 1
   else
    pN s (IntKind.wrap .i64 (i+1))
 else
  pO s 1
theorem oH (s i):dx s i=kU dx dy s i:=(l1 140 0 _).trans (by kernel_rfl)
def kV (pO:af dy)(s:List Int)(i:Int):Option (Int):=
 bif (decide (i<(s.length:Int))) then
  (idx s i).bind fun v0=>
  (idx s (IntKind.wrap .i64 (i - 1))).bind fun v1=>
  bif (decide (v0≤v1)) then
   some 6
  else
   pO s (IntKind.wrap .i64 (i+1))
 else
  some 0
theorem oI (s i):dy s i=kV dy s i:=(l1 140 1 _).trans (by kernel_rfl)
def tV (pN:af dx)(s:List Int):Option (Int):=
 bif ((s.length:Int)==0) then
  some 1
 else
  bif (decide ((s.length:Int)>5)) then
   some 3
  else
   pN s 0
theorem AK (s):fE s=tV dx s:=(e1 140 _).trans (by kernel_rfl)
end
noncomputable section
def pP (pQ:af ga)(l:List (List Int))(i:Int)(out:List (List Int)):Option (List (List Int)):=
 bif (decide (i<(l.length:Int))) then
  (idx l i).bind fun v0=>
  bif (aG 8 1 0 v0.length) then
  bif (aG 24 1 out.length 1) then
  let e1:List (List Int):=(out++([(([]:List Int)++v0)]:List (List Int)))
  pQ l (IntKind.wrap .i64 (i+1)) e1
  else none
  else none
 else
  some out
theorem wb (l i out):ga l i out=pP ga l i out:=(l1 53 0 _).trans (by kernel_rfl)
def Ck (pQ:af ga)(l:List (List Int)):Option (List (List Int)):=
 pQ l 0 ([]:List (List Int))
theorem KZ (l):ry l=Ck ga l:=(e1 53 _).trans (by kernel_rfl)
def pR (pS:af gd)(kW:af eH)(MN:af rB)(AM:af lN)(l:List (List Int))(most:Int)(PT:Int)(n:Int)(i:Int)(QZ:List (List Int)):Option (List (List Int)):=
 bif (decide (i<(l.length:Int))) then
  bif (decide (i<most)) then
   (idx l i).bind fun v0=>
   (MN v0 (IntKind.wrap .i64 (PT+1)) n).bind fun r1=>
   bif (aG 24 1 QZ.length 1) then
   pS l most PT n (IntKind.wrap .i64 (i+1)) (QZ++([r1]:List (List Int)))
   else none
  else
   (AM QZ).bind fun r2=>
   kW r2 (r2.length:Int) 0 ([]:List (List Int))
 else
  (AM QZ).bind fun r3=>
  kW r3 (r3.length:Int) 0 ([]:List (List Int))
theorem wc (l most PT n i QZ):gd l most PT n i QZ=pR gd eH rB lN l most PT n i QZ:=(l1 54 0 _).trans (by kernel_rfl)
def pT (kW:af eH)(t:List (List Int))(t2:Int)(t3:Int)(out:List (List Int)):Option (List (List Int)):=
 bif (decide (t3<t2)) then
  (idx t t3).bind fun v0=>
  bif (aG 24 1 out.length 1) then
  kW t t2 (IntKind.wrap .i64 (t3+1)) (out++([v0]:List (List Int)))
  else none
 else
  some out
theorem we (t t2 t3 out):eH t t2 t3 out=pT eH t t2 t3 out:=(l1 54 1 _).trans (by kernel_rfl)
def Cm (pS:af gd)(l:List (List Int))(most:Int)(PT:Int)(n:Int):Option (List (List Int)):=
 pS l most PT n 0 ([]:List (List Int))
theorem K0 (l most PT n):rz l most PT n=Cm gd l most PT n:=(e1 54 _).trans (by kernel_rfl)
def oJ (Ha:af qE)(tW:af jY)(l:List (List Int))(i:Int)(out:List (List Int)):Option (List (List Int)):=
 bif (decide (i<(l.length:Int))) then
  (idx l i).bind fun v0=>
  (tW v0).bind fun r1=>
  Ha l i r1 0 out
 else
  some out
theorem uL (l i out):fz l i out=oJ qE jY l i out:=(l1 94 0 _).trans (by kernel_rfl)
def wg (fG:af cH)(oK:af fz)(ig:af fe)(l:List (List Int))(i:Int)(f:List (List Int))(k:Int)(out:List (List Int)):Option (List (List Int)):=
 bif (decide (k<(f.length:Int))) then
  (idx f k).bind fun v0=>
  (ig out v0).bind fun r1=>
  fG l r1 i f (IntKind.wrap .i64 (k+1))
 else
  oK l (IntKind.wrap .i64 (i+1)) out
theorem FI (l i f k out):qE l i f k out=wg cH fz fe l i f k out:=(l1 94 1 _).trans (by kernel_rfl)
def nD (fG:af cH)(FJ:af gQ)(ig:af fe)(l:List (List Int))(out:List (List Int))(i:Int)(f:List (List Int))(k:Int):Option (List (List Int)):=
 bif (decide (k<(f.length:Int))) then
  (idx f k).bind fun v0=>
  (ig out v0).bind fun r1=>
  fG l r1 i f (IntKind.wrap .i64 (k+1))
 else
  FJ l out (IntKind.wrap .i64 (i+1))
theorem s8 (l out i f k):cH l out i f k=nD cH gQ fe l out i f k:=(l1 94 1 _).trans (by kernel_rfl)
def nE (fG:af cH)(tW:af jY)(l:List (List Int))(out:List (List Int))(i:Int):Option (List (List Int)):=
 bif (decide (i<(l.length:Int))) then
  (idx l i).bind fun v0=>
  (tW v0).bind fun r1=>
  fG l out i r1 0
 else
  some out
theorem s9 (l out i):gQ l out i=nE cH jY l out i:=(l1 94 0 _).trans (by kernel_rfl)
def AN (oK:af fz)(l:List (List Int)):Option (List (List Int)):=
 oK l 0 ([]:List (List Int))
theorem Ju (l):lN l=AN fz l:=(e1 94 _).trans (by kernel_rfl)
def pU (eW:af gh)(tX:af fE)(bg:af aY)(b5:af bK)(l:List (List Int))(i:Int):Option (Int):=
 bif (decide (i<(l.length:Int))) then
  (idx l i).bind fun v0=>
  (tX v0).bind fun r1=>
  bif (r1 != 0) then
   some r1
  else
   bif (decide (i>0)) then
    (idx l i).bind fun v2=>
    (idx l (IntKind.wrap .i64 (i - 1))).bind fun v3=>
    (bg v2 v3).bind fun r4=>
    bif (r4==0) then
     some 5
    else
     bif (decide (i>0)) then
      (idx l i).bind fun v5=>
      (idx l (IntKind.wrap .i64 (i - 1))).bind fun v6=>
      (bg v5 v6).bind fun r7=>
      bif (decide (r7<0)) then
       some 6
      else
       (idx l i).bind fun v8=>
       (b5 v8).bind fun r9=>
       eW l i r9 0
     else
      (idx l i).bind fun v10=>
      (b5 v10).bind fun r11=>
      eW l i r11 0
   else
    bif (decide (i>0)) then
     (idx l i).bind fun v12=>
     (idx l (IntKind.wrap .i64 (i - 1))).bind fun v13=>
     (bg v12 v13).bind fun r14=>
     bif (decide (r14<0)) then
      some 6
     else
      (idx l i).bind fun v15=>
      (b5 v15).bind fun r16=>
      eW l i r16 0
    else
     (idx l i).bind fun v17=>
     (b5 v17).bind fun r18=>
     eW l i r18 0
 else
  some 0
theorem wh (l i):eI l i=pU gh fE aY bK l i:=(l1 96 0 _).trans (by kernel_rfl)
def pV (eW:af gh)(pW:af eI)(MO:af rD)(l:List (List Int))(i:Int)(f:List (List Int))(k:Int):Option (Int):=
 bif (decide (k<(f.length:Int))) then
  (idx f k).bind fun v0=>
  (MO l v0).bind fun r1=>
  bif (decide (r1<0)) then
   some 7
  else
   eW l i f (IntKind.wrap .i64 (k+1))
 else
  pW l (IntKind.wrap .i64 (i+1))
theorem wk (l i f k):gh l i f k=pV gh eI rD l i f k:=(l1 96 1 _).trans (by kernel_rfl)
def Cn (pW:af eI)(l:List (List Int)):Option (Int):=
 bif (decide ((l.length:Int)>1024)) then
  some 3
 else
  pW l 0
theorem K1 (l):rC l=Cn eI l:=(e1 96 _).trans (by kernel_rfl)
def xl (pX:af gj)(bg:af aY)(l:List (List Int))(s:List Int)(i:Int):Option (Int):=
 bif (decide (i<(l.length:Int))) then
  (idx l i).bind fun v0=>
  (bg v0 s).bind fun r1=>
  bif (r1==0) then
   some i
  else
   pX l s (IntKind.wrap .i64 (i+1))
 else
  some (-1)
theorem Hb (l s i):gj l s i=xl gj aY l s i:=(l1 141 0 _).trans (by kernel_rfl)
def Co (pX:af gj)(l:List (List Int))(s:List Int):Option (Int):=
 pX l s 0
theorem K2 (l s):rD l s=Co gj l s:=(e1 141 _).trans (by kernel_rfl)
end
noncomputable section
def pY (kX:af fY)(Cq:af rA)(RQ:af yy)(values:List Int)(c:List (List Int))(i:Int)(UP:List ByteArray):Option (List ((List Int)×ByteArray×Unit)):=
 bif (decide (i<(c.length:Int))) then
  bif (decide ((values.length:Int)>0)) then
   bif (!((values.length:Int)==0)) then
   (idx values (i.tmod (values.length:Int))).bind fun v0=>
   bif (!((values.length:Int)==0)) then
   let e1:Int:=(IntKind.wrap .i64 (i.tdiv (values.length:Int)))
   (Cq (IntKind.wrap .i64 (v0+e1))).bind fun r2=>
   bif (aG 16 1 UP.length 1) then
   kX values c (IntKind.wrap .i64 (i+1)) (UP++([r2]:List ByteArray))
   else none
   else none
   else none
  else
   (Cq i).bind fun r3=>
   bif (aG 16 1 UP.length 1) then
   kX values c (IntKind.wrap .i64 (i+1)) (UP++([r3]:List ByteArray))
   else none
 else
  (RQ c UP).bind fun r4=>
  some r4.1
theorem wm (values c i UP):fY values c i UP=pY fY rA yy values c i UP:=(l1 32 0 _).trans (by kernel_rfl)
def Ct (kX:af fY)(MP:af rz)(MQ:af ry)(l:List (List Int))(values:List Int)(most:Int)(PT:Int)(n:Int):Option (List ((List Int)×ByteArray×Unit)):=
 (MP l most PT n).bind fun r0=>
 (MQ r0).bind fun r1=>
 kX values r1 0 ([]:List ByteArray)
theorem K3 (l values most PT n):rl l values most PT n=Ct fY rz ry l values most PT n:=(e1 32 _).trans (by kernel_rfl)
def Cu (Iq:af gg)(n:Int):Option (ByteArray):=
 let e0:Int:=(IntKind.wrap .i64 ((n.tmod 24)+24))
 let e1:Int:=(IntKind.wrap .i64 ((e0.tmod 24) - 8))
 (Iq e1 4).bind fun r2=>
 some r2
theorem K4 (n):rA n=Cu gg n:=(e1 55 _).trans (by kernel_rfl)
def tY (tZ:af jU)(ua:af ib)(ub:af fy)(l:List (List Int))(values:List ByteArray)(i:Int):Option ((List ((List Int)×ByteArray×Unit))×Int):=
 bif (decide (i<(values.length:Int))) then
  (idx values i).bind fun v0=>
  (ub v0).bind fun r1=>
  bif (!r1) then
   some (([]:List ((List Int)×ByteArray×Unit)),(1:Int))
  else
   tZ l values (IntKind.wrap .i64 (i+1))
 else
  ua l values 0 ([]:List ((List Int)×ByteArray×Unit))
theorem AO (l values i):jU l values i=tY jU ib fy l values i:=(l1 56 0 _).trans (by kernel_rfl)
def uc (kq:af jV)(K5:af lO)(l:List (List Int))(values:List ByteArray)(i:Int)(out:List ((List Int)×ByteArray×Unit)):Option ((List ((List Int)×ByteArray×Unit))×Int):=
 bif (decide (i<(l.length:Int))) then
  (idx values i).bind fun v0=>
  kq l values i v0 0 out
 else
  (K5 out).bind fun r1=>
  some (r1,(0:Int))
theorem AP (l values i out):ib l values i out=uc jV lO l values i out:=(l1 56 1 _).trans (by kernel_rfl)
def ud (kq:af jV)(ua:af ib)(P4:af vu)(iR:af bO)(l:List (List Int))(values:List ByteArray)(i:Int)(UP:ByteArray)(k:Int)(out:List ((List Int)×ByteArray×Unit)):Option ((List ((List Int)×ByteArray×Unit))×Int):=
 bif (decide (k<(l.length:Int))) then
  (idx l i).bind fun v0=>
  (idx l k).bind fun v1=>
  (P4 v0 v1).bind fun r2=>
  bif r2 then
   (idx values k).bind fun v3=>
   (iR v3 UP).bind fun r4=>
   bif (decide (r4>0)) then
    (idx values k).bind fun v5=>
    kq l values i v5 (IntKind.wrap .i64 (k+1)) out
   else
    kq l values i UP (IntKind.wrap .i64 (k+1)) out
  else
   kq l values i UP (IntKind.wrap .i64 (k+1)) out
 else
  (idx l i).bind fun v6=>
  let e7:List ((List Int)×ByteArray×Unit):=([(v6,(UP,()))]:List ((List Int)×ByteArray×Unit))
  bif (aG 40 2 out.length 1) then
  ua l values (IntKind.wrap .i64 (i+1)) (out++e7)
  else none
theorem AQ (l values i UP k out):jV l values i UP k out=ud jV ib vu bO l values i UP k out:=(l1 56 2 _).trans (by kernel_rfl)
def HJ (tZ:af jU)(MR:af rC)(l:List (List Int))(values:List ByteArray):Option ((List ((List Int)×ByteArray×Unit))×Int):=
 (MR l).bind fun r0=>
 bif (r0 != 0) then
  some (([]:List ((List Int)×ByteArray×Unit)),r0)
 else
  bif ((values.length:Int) != (l.length:Int)) then
   some (([]:List ((List Int)×ByteArray×Unit)),(10:Int))
  else
   tZ l values 0
theorem P5 (l values):yy l values=HJ jU rC l values:=(e1 56 _).trans (by kernel_rfl)
def kY (pZ:af dr)(Ow:af lD)(b5:af bK)(f:List ((List Int)×ByteArray×Unit))(i:Int):Option (Int):=
 bif (decide (i<(f.length:Int))) then
  (Ow f i).bind fun r0=>
  bif (r0 != 0) then
   some r0
  else
   (idx f i).bind fun v1=>
   (b5 v1.1).bind fun r2=>
   pZ f i r2 0
 else
  some 0
theorem oL (f i):cM f i=kY dr lD bK f i:=(l1 57 0 _).trans (by kernel_rfl)
def kZ (pZ:af dr)(k8:af cM)(uf:af eB)(iR:af bO)(f:List ((List Int)×ByteArray×Unit))(i:Int)(cw:List (List Int))(k:Int):Option (Int):=
 bif (decide (k<(cw.length:Int))) then
  (idx cw k).bind fun v0=>
  (uf f i v0).bind fun r1=>
  bif (decide (r1<0)) then
   some 7
  else
   pZ f i cw (IntKind.wrap .i64 (k+1))
 else
  bif (decide (i>0)) then
   (idx f i).bind fun v2=>
   (idx f (IntKind.wrap .i64 (i - 1))).bind fun v3=>
   (iR v2.2.1 v3.2.1).bind fun r4=>
   bif (decide (r4<0)) then
    some 6
   else
    k8 f (IntKind.wrap .i64 (i+1))
  else
   k8 f (IntKind.wrap .i64 (i+1))
theorem oM (f i cw k):dr f i cw k=kZ dr cM eB bO f i cw k:=(l1 57 1 _).trans (by kernel_rfl)
def ug (k8:af cM)(f:List ((List Int)×ByteArray×Unit)):Option (Int):=
 bif (decide ((f.length:Int)>1024)) then
  some 3
 else
  k8 f 0
theorem AR (f):jW f=ug cM f:=(e1 57 _).trans (by kernel_rfl)
def oN (jC:af dP)(out:Nat)(i:Int)(aF:H4)(kD:H8):Option (List ((List Int)×ByteArray×Unit)):=
 (ai kD out).bind fun v0=>
 bif (decide (i<(v0.length:Int))) then
  jC out i i aF kD
 else
  (typed (hs [] [] [] [] aF [] [] [] kD [] []) (.slice (.st (.pair (.slice (.int .i64)) (.pair (.str) (.unit))))) (.rv (.cv ⟨.ref 8,out⟩))).bind fun v1=>
  some v1
theorem uM (out i aF kD):bE out i aF kD=oN dP out i aF kD:=(l1 98 0 _).trans (by kernel_rfl)
def oO (fT:af bE)(jC:af dP)(iR:af bO)(bg:af aY)(out:Nat)(i:Int)(k:Int)(aF:H4)(kD:H8):Option (List ((List Int)×ByteArray×Unit)):=
 bif (decide (k>0)) then
  (ai kD out).bind fun v0=>
  (idx v0 k).bind fun _=>
  (ai kD out).bind fun v1=>
  (v1[k.toNat]?).bind fun v2=>
  (ai kD out).bind fun v3=>
  (idx v3 (IntKind.wrap .i64 (k - 1))).bind fun _=>
  (ai kD out).bind fun v4=>
  (v4[(IntKind.wrap .i64 (k - 1)).toNat]?).bind fun v5=>
  (iR v2.2.1 v5.2.1).bind fun r6=>
  bif (decide (r6>0)) then
   fT out (IntKind.wrap .i64 (i+1)) aF kD
  else
   bif (r6==0) then
    (ai kD out).bind fun v7=>
    (idx v7 k).bind fun _=>
    (ai kD out).bind fun v8=>
    (v8[k.toNat]?).bind fun v9=>
    (ai kD out).bind fun v10=>
    (idx v10 (IntKind.wrap .i64 (k - 1))).bind fun _=>
    (ai kD out).bind fun v11=>
    (v11[(IntKind.wrap .i64 (k - 1)).toNat]?).bind fun v12=>
    (typed (hs [] [] [] [] aF [] [] [] kD [] []) (.slice (.int .i64)) (.rv (.cv ⟨.ref 4,v9.1⟩))).bind fun v13=>
    (typed (hs [] [] [] [] aF [] [] [] kD [] []) (.slice (.int .i64)) (.rv (.cv ⟨.ref 4,v12.1⟩))).bind fun v14=>
    (bg v13 v14).bind fun r15=>
    bif (decide (r15>0)) then
     fT out (IntKind.wrap .i64 (i+1)) aF kD
    else
     (ai kD out).bind fun v16=>
     (idx v16 (IntKind.wrap .i64 (k - 1))).bind fun _=>
     (ai kD out).bind fun v17=>
     (v17[(IntKind.wrap .i64 (k - 1)).toNat]?).bind fun v18=>
     (ai kD out).bind fun v19=>
     (idx v19 k).bind fun _=>
     (ai kD out).bind fun v20=>
     (v20[k.toNat]?).bind fun v21=>
     (ai kD out).bind fun v22=>
     (idx v22 k).bind fun _=>
     (ai kD out).bind fun v23=>
     (v23[k.toNat]?).bind fun v24=>
     let e25:H8:=(ik kD out (v23.set k.toNat (v18.1,(v18.2.1,()))))
     (ai e25 out).bind fun v26=>
     (idx v26 (IntKind.wrap .i64 (k - 1))).bind fun _=>
     (ai e25 out).bind fun v27=>
     (v27[(IntKind.wrap .i64 (k - 1)).toNat]?).bind fun v28=>
     let e29:H8:=(ik e25 out (v27.set (IntKind.wrap .i64 (k - 1)).toNat (v21.1,(v21.2.1,()))))
     jC out i (IntKind.wrap .i64 (k - 1)) aF e29
   else
    (ai kD out).bind fun v30=>
    (idx v30 (IntKind.wrap .i64 (k - 1))).bind fun _=>
    (ai kD out).bind fun v31=>
    (v31[(IntKind.wrap .i64 (k - 1)).toNat]?).bind fun v32=>
    (ai kD out).bind fun v33=>
    (idx v33 k).bind fun _=>
    (ai kD out).bind fun v34=>
    (v34[k.toNat]?).bind fun v35=>
    (ai kD out).bind fun v36=>
    (idx v36 k).bind fun _=>
    (ai kD out).bind fun v37=>
    (v37[k.toNat]?).bind fun v38=>
    let e39:H8:=(ik kD out (v37.set k.toNat (v32.1,(v32.2.1,()))))
    (ai e39 out).bind fun v40=>
    (idx v40 (IntKind.wrap .i64 (k - 1))).bind fun _=>
    (ai e39 out).bind fun v41=>
    (v41[(IntKind.wrap .i64 (k - 1)).toNat]?).bind fun v42=>
    let e43:H8:=(ik e39 out (v41.set (IntKind.wrap .i64 (k - 1)).toNat (v35.1,(v35.2.1,()))))
    jC out i (IntKind.wrap .i64 (k - 1)) aF e43
 else
  fT out (IntKind.wrap .i64 (i+1)) aF kD
theorem uN (out i k aF kD):dP out i k aF kD=oO bE dP bO aY out i k aF kD:=(l1 98 1 _).trans (by kernel_rfl)
def AT (fT:af bE)(K6:af qm)(l:List ((List Int)×ByteArray×Unit)):Option (List ((List Int)×ByteArray×Unit)):=
 (K6 l ([]:H8) ([]:H4)).bind fun r0=>
 fT r0.1 0 r0.2.2 r0.2.1
theorem Jv (l):lO l=AT bE qm l:=(e1 98 _).trans (by kernel_rfl)
def wo (tX:af fE)(ub:af fy)(uf:af eB)(f:List ((List Int)×ByteArray×Unit))(i:Int):Option (Int):=
 (idx f i).bind fun v0=>
 (tX v0.1).bind fun r1=>
 bif (r1 != 0) then
  some r1
 else
  (idx f i).bind fun v2=>
  (ub v2.2.1).bind fun r3=>
  bif (!r3) then
   some 1
  else
   (idx f i).bind fun v4=>
   (uf f i v4.1).bind fun r5=>
   bif (decide (r5≥0)) then
    some 5
   else
    some 0
theorem Cv (f i):lD f i=wo fE fy eB f i:=(e1 99 _).trans (by kernel_rfl)
def k9 (p0:af cN)(bg:af aY)(f:List ((List Int)×ByteArray×Unit))(n:Int)(s:List Int)(i:Int):Option (Int):=
 bif (decide (i<n)) then
  (idx f i).bind fun v0=>
  (bg v0.1 s).bind fun r1=>
  bif (r1==0) then
   some i
  else
   p0 f n s (IntKind.wrap .i64 (i+1))
 else
  some (-1)
theorem oP (f n s i):cN f n s i=k9 cN aY f n s i:=(l1 100 0 _).trans (by kernel_rfl)
def oQ (p0:af cN)(f:List ((List Int)×ByteArray×Unit))(n:Int)(s:List Int):Option (Int):=
 p0 f n s 0
theorem sC (f n s):eB f n s=oQ cN f n s:=(e1 100 _).trans (by kernel_rfl)
def oR (eE:af fF)(l:List ((List Int)×ByteArray×Unit))(out:Nat)(i:Int)(aF:H4)(kD:H8):Option ((Nat)×H8×H4):=
 bif (decide (i<(l.length:Int))) then
  (idx l i).bind fun v0=>
  (ai (aF++[some ([]:List Int)]) (aF.length+1:Nat)).bind fun v1=>
  bif (aG 8 1 v1.length v0.1.length) then
  bif v0.1.isEmpty then
   (idx l i).bind fun v2=>
   let e3:H8:=(kD++[some ([((aF.length+1:Nat),(v2.2.1,()))]:List (Nat×ByteArray×Unit))])
   (ai e3 out).bind fun v4=>
   (ai e3 (kD.length+1:Nat)).bind fun v5=>
   bif (aG 40 2 v4.length v5.length) then
   bif v5.isEmpty then
    eE l out (IntKind.wrap .i64 (i+1)) (aF++[some ([]:List Int)]) e3
   else
    eE l ((dh e3 out).length+1:Nat) (IntKind.wrap .i64 (i+1)) (aF++[some ([]:List Int)]) ((dh e3 out)++[some (v4++v5)])
   else none
  else
   let e6:H4:=((dh (aF++[some ([]:List Int)]) (aF.length+1:Nat))++[some (v1++v0.1)])
   let e7:Nat:=((dh (aF++[some ([]:List Int)]) (aF.length+1:Nat)).length+1:Nat)
   (idx l i).bind fun v8=>
   let e9:H8:=(kD++[some ([(e7,(v8.2.1,()))]:List (Nat×ByteArray×Unit))])
   (ai e9 out).bind fun v10=>
   (ai e9 (kD.length+1:Nat)).bind fun v11=>
   bif (aG 40 2 v10.length v11.length) then
   bif v11.isEmpty then
    eE l out (IntKind.wrap .i64 (i+1)) e6 e9
   else
    eE l ((dh e9 out).length+1:Nat) (IntKind.wrap .i64 (i+1)) e6 ((dh e9 out)++[some (v10++v11)])
   else none
  else none
 else
  some (out,(kD,aF))
theorem uO (l out i aF kD):fF l out i aF kD=oR fF l out i aF kD:=(l1 142 0 _).trans (by kernel_rfl)
def AU (eE:af fF)(l:List ((List Int)×ByteArray×Unit))(kD:H8)(aF:H4):Option ((Nat)×H8×H4):=
 eE l (0:Nat) 0 aF kD
theorem Jw (l kD aF):qm l kD aF=AU fF l kD aF:=(e1 142 _).trans (by kernel_rfl)
end
noncomputable section
def p5 (p6:af fX)(n:Int)(x:List (List Int))(x2:List Int)(x3:Int)(x4:List Int)(t:Int)(t2:Nat)(c:Int)(c2:xP):Option mJ:=
 bif (decide ((IntKind.wrap .i64 (n+2))<(x4.length:Int))) then
  bif (decide (n<24)) then
   bif (decide ((c2.length:Int)>0)) then
    (idx x4 n).bind fun v0=>
    bif (!((c2.length:Int)==0)) then
    let e1:Int:=(IntKind.wrap .i64 ((v0.tmod (c2.length:Int))+(c2.length:Int)))
    bif (!((c2.length:Int)==0)) then
    (idx x4 (IntKind.wrap .i64 (n+1))).bind fun v2=>
    bif (!((IntKind.wrap .i64 (c - 1))==0)) then
    let e3:Int:=(IntKind.wrap .i64 ((v2.tmod (IntKind.wrap .i64 (c - 1)))+c))
    bif (!((IntKind.wrap .i64 (c - 1))==0)) then
    let e4:Int:=((IntKind.wrap .i64 (e3 - 1)).tmod (IntKind.wrap .i64 (c - 1)))
    let e5:Int:=(IntKind.wrap .i64 ((e1.tmod (c2.length:Int)) - 1))
    p6 n (e1.tmod (c2.length:Int)) (IntKind.wrap .i64 (1+e4)) e5 x x2 x3 x4 t t2 c c2
    else none
    else none
    else none
    else none
   else
    some (c,(c2,()))
  else
   some (c,(c2,()))
 else
  some (c,(c2,()))
theorem wq (n x x2 x3 x4 t t2 c c2):eF n x x2 x3 x4 t t2 c c2=p5 fX n x x2 x3 x4 t t2 c c2:=(l1 14 0 _).trans (by kernel_rfl)
def p7 (p6:af fX)(eX:af eF)(DR:af tk)(n:Int)(j:Int)(k:Int)(i:Int)(x:List (List Int))(x2:List Int)(x3:Int)(x4:List Int)(t:Int)(t2:Nat)(c:Int)(c2:xP):Option mJ:=
 bif (decide (i≥0)) then
  (idx c2 i).bind fun v0=>
  (idx c2 j).bind fun v1=>
  bif (v0.1 != v1.1) then
   p6 n j k (IntKind.wrap .i64 (i - 1)) x x2 x3 x4 t t2 c c2
  else
   bif (decide (i≥0)) then
    (idx x4 (IntKind.wrap .i64 (n+2))).bind fun v2=>
    bif (!(c==0)) then
    bif (!(c==0)) then
    (DR (c,(c2,())) i j k ((IntKind.wrap .i64 ((v2.tmod c)+c)).tmod c)).bind fun r3=>
    eX (IntKind.wrap .i64 (n+3)) x x2 x3 x4 t t2 r3.1 r3.2.1
    else none
    else none
   else
    eX (IntKind.wrap .i64 (n+3)) x x2 x3 x4 t t2 c c2
 else
  bif (decide (i≥0)) then
   (idx x4 (IntKind.wrap .i64 (n+2))).bind fun v4=>
   bif (!(c==0)) then
   bif (!(c==0)) then
   (DR (c,(c2,())) i j k ((IntKind.wrap .i64 ((v4.tmod c)+c)).tmod c)).bind fun r5=>
   eX (IntKind.wrap .i64 (n+3)) x x2 x3 x4 t t2 r5.1 r5.2.1
   else none
   else none
  else
   eX (IntKind.wrap .i64 (n+3)) x x2 x3 x4 t t2 c c2
theorem wu (n j k i x x2 x3 x4 t t2 c c2):fX n j k i x x2 x3 x4 t t2 c c2=p7 fX eF tk n j k i x x2 x3 x4 t t2 c c2:=(l1 14 1 _).trans (by kernel_rfl)
def Cw (eX:af eF)(MS:af rl)(MT:af rm)(Aj:af jH)(x:(List (List Int))×(List Int)×Int×(List Int)×Unit)(most:Int):Option mJ:=
 let e0:Int:=(bif decide (40<(x.1.length:Int)) then 40 else (x.1.length:Int))
 bif (di x.1.length 0 e0) then
 (MS (cut x.1 0 e0) x.2.1 5 3 6).bind fun r1=>
 let e2:Int:=(bif decide (most<(r1.length:Int)) then most else (r1.length:Int))
 bif (di r1.length 0 e2) then
 (MT x.2.2.1).bind fun r3=>
 (Aj (cut r1 0 e2) r3).bind fun r4=>
 eX 0 x.1 x.2.1 x.2.2.1 x.2.2.2.1 0 (0:Nat) r4.1.1 r4.1.2.1
 else none
 else none
theorem K7 (x most):rk x most=Cw eF rl rm jH x most:=(e1 14 _).trans (by kernel_rfl)
def oS (oT:af fw)(i:Int)(c:Int)(c2:xP)(t:Int)(t2:Nat)(out:Int)(ak:Nat)(lC:H0):Option ((Int×Nat×Unit)×H0):=
 bif (decide (i<(c2.length:Int))) then
  (idx c2 i).bind fun v0=>
  bif (aG 16 2 0 v0.2.2.1.length) then
  let e1:xP:=([(v0.1,(v0.2.1,((([]:dk)++v0.2.2.1),())))]:xP)
  (ai lC ak).bind fun v2=>
  bif (aG 48 3 v2.length 1) then
  oT (IntKind.wrap .i64 (i+1)) c c2 t t2 out ((dh lC ak).length+1:Nat) ((dh lC ak)++[some (v2++e1)])
  else none
  else none
 else
  (typed (hs ([]) [] [] [] [] [] [] [] [] [] []) yG (.rv (.agg [⟨.int .i64,out⟩,⟨.ref 0,ak⟩]))).bind fun v3=>
  some (v3,lC)
theorem uP (i c c2 t t2 out ak lC):fw i c c2 t t2 out ak lC=oS fw i c c2 t t2 out ak lC:=(l1 15 0 _).trans (by kernel_rfl)
def AW (oT:af fw)(c:mJ)(lC:H0):Option ((Int×Nat×Unit)×H0):=
 oT 0 c.1 c.2.1 0 (0:Nat) c.1 (0:Nat) lC
theorem Jx (c lC):ql c lC=AW fw c lC:=(e1 15 _).trans (by kernel_rfl)
def qV (kr:af cD)(a:dk)(b:dk)(i:Int):Option (Bool):=
 bif (decide (i<(a.length:Int))) then
  (idx a i).bind fun v0=>
  (idx b i).bind fun v1=>
  bif (!(Dj yT (v0.1,(v0.2.1,())) (v1.1,(v1.2.1,())))) then
   some false
  else
   kr a b (IntKind.wrap .i64 (i+1))
 else
  some true
theorem Bn (a b i):cD a b i=qV cD a b i:=(l1 30 0 _).trans (by kernel_rfl)
def uQ (kr:af cD)(a:dk)(b:dk):Option (Bool):=
 bif ((a.length:Int) != (b.length:Int)) then
  some false
 else
  kr a b 0
theorem EK (a b):gP a b=uQ cD a b:=(e1 30 _).trans (by kernel_rfl)
def Cy (uh:af gX)(b5:af bK)(f:List ((List Int)×ByteArray×Unit))(p:Int)(j:Int)(t:Int)(t2:Nat)(out:Int)(ak:Nat):Option (mJ×Int):=
 bif (decide (j<(f.length:Int))) then
  bif (je 8 j j) then
  let e0:H4:=(([]:H4)++[some (List.replicate j.toNat 0)])
  let e1:Nat:=(([]:H4).length+1:Nat)
  (idx f j).bind fun v2=>
  (b5 v2.1).bind fun r3=>
  uh f p j e1 r3 0 t t2 out ak e0
  else none
 else
  (PS (typed h0 yH (.rv (.agg [⟨.int .i64,out⟩,⟨.ref 0,ak⟩]))) (some 0)).bind fun v4=>
  some v4
theorem K8 (f p j t t2 out ak):jT f p j t t2 out ak=Cy gX bK f p j t t2 out ak:=(l1 33 0 _).trans (by kernel_rfl)
def Cz (oU:af gY)(sD:af cY)(df:af aU)(f:List ((List Int)×ByteArray×Unit))(p:Int)(j:Int)(v:Nat)(cw:List (List Int))(k:Int)(t:Int)(t2:Nat)(out:Int)(ak:Nat)(aF:H4):Option (mJ×Int):=
 bif (decide (k<(cw.length:Int))) then
  oU f p j v cw k 0 t t2 out ak aF
 else
  (idx f j).bind fun v0=>
  let e1:Int:=(IntKind.wrap .i64 ((v0.1.length:Int) - 1))
  (idx f j).bind fun v2=>
  (df v aF).bind fun r3=>
  let e4:xP:=([(e1,(v2.2.1,(r3,())))]:xP)
  (ai ([]:H0) ak).bind fun v5=>
  bif (aG 48 3 v5.length 1) then
  let e6:H0:=((dh ([]:H0) ak)++[some (v5++e4)])
  let e7:Nat:=((dh ([]:H0) ak).length+1:Nat)
  sD f p (IntKind.wrap .i64 (j+1)) t t2 out e7 e6 aF
  else none
theorem K9 (f p j v cw k t t2 out ak aF):gX f p j v cw k t t2 out ak aF=Cz gY cY aU f p j v cw k t t2 out ak aF:=(l1 33 1 _).trans (by kernel_rfl)
def CA (oU:af gY)(uh:af gX)(bg:af aY)(f:List ((List Int)×ByteArray×Unit))(p:Int)(j:Int)(v:Nat)(cw:List (List Int))(k:Int)(i:Int)(t:Int)(t2:Nat)(out:Int)(ak:Nat)(aF:H4):Option (mJ×Int):=
 bif (decide (i<j)) then
  (idx f i).bind fun v0=>
  (idx cw k).bind fun v1=>
  (bg v0.1 v1).bind fun r2=>
  bif (r2==0) then
   let e3:Int:=(IntKind.wrap .i64 ((k.tmod 2)*(IntKind.wrap .i64 (p - 2))))
   bif (!(p==0)) then
   (ai aF v).bind fun v4=>
   (idx v4 i).bind fun _=>
   (ai aF v).bind fun v5=>
   (v5[i.toNat]?).bind fun v6=>
   let e7:H4:=(ik aF v (v5.set i.toNat ((IntKind.wrap .i64 (1+e3)).tmod p)))
   oU f p j v cw k (IntKind.wrap .i64 (i+1)) t t2 out ak e7
   else none
  else
   oU f p j v cw k (IntKind.wrap .i64 (i+1)) t t2 out ak aF
 else
  uh f p j v cw (IntKind.wrap .i64 (k+1)) t t2 out ak aF
theorem La (f p j v cw k i t t2 out ak aF):gY f p j v cw k i t t2 out ak aF=CA gY gX aY f p j v cw k i t t2 out ak aF:=(l1 33 2 _).trans (by kernel_rfl)
def mS (sE:af dH)(b5:af bK)(f:List ((List Int)×ByteArray×Unit))(p:Int)(j:Int)(t:Int)(t2:Nat)(out:Int)(ak:Nat)(lC:H0)(aF:H4):Option (mJ×Int):=
 bif (decide (j<(f.length:Int))) then
  bif (je 8 j j) then
  let e0:H4:=(aF++[some (List.replicate j.toNat 0)])
  (idx f j).bind fun v1=>
  (b5 v1.1).bind fun r2=>
  sE f p j (aF.length+1:Nat) r2 0 t t2 out ak lC e0
  else none
 else
  (PS (typed (hs lC [] [] [] aF [] [] [] [] [] []) yH (.rv (.agg [⟨.int .i64,out⟩,⟨.ref 0,ak⟩]))) (some 0)).bind fun v3=>
  some v3
theorem qW (f p j t t2 out ak lC aF):cY f p j t t2 out ak lC aF=mS dH bK f p j t t2 out ak lC aF:=(l1 33 0 _).trans (by kernel_rfl)
def mT (mU:af eK)(sD:af cY)(df:af aU)(f:List ((List Int)×ByteArray×Unit))(p:Int)(j:Int)(v:Nat)(cw:List (List Int))(k:Int)(t:Int)(t2:Nat)(out:Int)(ak:Nat)(lC:H0)(aF:H4):Option (mJ×Int):=
 bif (decide (k<(cw.length:Int))) then
  mU f p j v cw k 0 t t2 out ak lC aF
 else
  (idx f j).bind fun v0=>
  let e1:Int:=(IntKind.wrap .i64 ((v0.1.length:Int) - 1))
  (idx f j).bind fun v2=>
  (df v aF).bind fun r3=>
  let e4:xP:=([(e1,(v2.2.1,(r3,())))]:xP)
  (ai lC ak).bind fun v5=>
  bif (aG 48 3 v5.length 1) then
  sD f p (IntKind.wrap .i64 (j+1)) t t2 out ((dh lC ak).length+1:Nat) ((dh lC ak)++[some (v5++e4)]) aF
  else none
theorem qX (f p j v cw k t t2 out ak lC aF):dH f p j v cw k t t2 out ak lC aF=mT eK cY aU f p j v cw k t t2 out ak lC aF:=(l1 33 1 _).trans (by kernel_rfl)
def mV (mU:af eK)(sE:af dH)(bg:af aY)(f:List ((List Int)×ByteArray×Unit))(p:Int)(j:Int)(v:Nat)(cw:List (List Int))(k:Int)(i:Int)(t:Int)(t2:Nat)(out:Int)(ak:Nat)(lC:H0)(aF:H4):Option (mJ×Int):=
 bif (decide (i<j)) then
  (idx f i).bind fun v0=>
  (idx cw k).bind fun v1=>
  (bg v0.1 v1).bind fun r2=>
  bif (r2==0) then
   let e3:Int:=(IntKind.wrap .i64 ((k.tmod 2)*(IntKind.wrap .i64 (p - 2))))
   bif (!(p==0)) then
   (ai aF v).bind fun v4=>
   (idx v4 i).bind fun _=>
   (ai aF v).bind fun v5=>
   (v5[i.toNat]?).bind fun v6=>
   let e7:H4:=(ik aF v (v5.set i.toNat ((IntKind.wrap .i64 (1+e3)).tmod p)))
   mU f p j v cw k (IntKind.wrap .i64 (i+1)) t t2 out ak lC e7
   else none
  else
   mU f p j v cw k (IntKind.wrap .i64 (i+1)) t t2 out ak lC aF
 else
  sE f p j v cw (IntKind.wrap .i64 (k+1)) t t2 out ak lC aF
theorem qY (f p j v cw k i t t2 out ak lC aF):eK f p j v cw k i t t2 out ak lC aF=mV eK dH aY f p j v cw k i t t2 out ak lC aF:=(l1 33 2 _).trans (by kernel_rfl)
def Am (MU:af jT)(MV:af ia)(MW:af jW)(f:List ((List Int)×ByteArray×Unit))(p:Int):Option (mJ×Int):=
 (MV p).bind fun r0=>
 bif (!r0) then
  (PS (typed h0 yH (.rv (.agg [⟨.int .i64,(0:Int)⟩,⟨.ref 0,(0:Nat)⟩]))) (some 8)).bind fun v1=>
  some v1
 else
  (MW f).bind fun r2=>
  bif (r2 != 0) then
   (PS (typed h0 yH (.rv (.agg [⟨.int .i64,(0:Int)⟩,⟨.ref 0,(0:Nat)⟩]))) (some r2)).bind fun v3=>
   some v3
  else
   MU f p 0 0 (0:Nat) p (0:Nat)
theorem FK (f p):jH f p=Am jT ia jW f p:=(e1 33 _).trans (by kernel_rfl)
def CC (n:Int):Option (Int):=
 let e0:List Int:=([2,(3:Int),(5:Int),(2:Int),(251:Int),(7:Int)]:List Int)
 let e1:Int:=(IntKind.wrap .i64 ((n.tmod 6)+6))
 (idx e0 (e1.tmod 6)).bind fun _=>
 (e0[(e1.tmod 6).toNat]?).bind fun v2=>
 some v2
theorem Lb (n):rm n=CC n:=(e1 34 _).trans (by kernel_rfl)
def qZ (q6:af gZ)(q7:af hU)(df:af aU)(i:Int)(j:Int)(k:Int)(m:Int)(inv:Int)(v:Nat)(a:List Int)(b:List Int)(n:Int)(c:Int)(c2:xP)(t:Int)(t2:Nat)(out:Int)(ak:Nat)(lC:H0)(aF:H4):Option mJ:=
 (ai aF v).bind fun v0=>
 bif (decide (n<(v0.length:Int))) then
  (idx a n).bind fun v1=>
  (idx b n).bind fun v2=>
  let e3:Int:=(IntKind.wrap .i64 ((IntKind.wrap .i64 (k*v1))+(IntKind.wrap .i64 (m*v2))))
  bif (!(c==0)) then
  (ai aF v).bind fun v4=>
  (idx v4 n).bind fun _=>
  (ai aF v).bind fun v5=>
  (v5[n.toNat]?).bind fun v6=>
  q6 i j k m inv v a b (IntKind.wrap .i64 (n+1)) c c2 t t2 out ak lC (ik aF v (v5.set n.toNat (e3.tmod c)))
  else none
 else
  (df v aF).bind fun r7=>
  (ai lC ak).bind fun v8=>
  (idx v8 j).bind fun _=>
  (ai lC ak).bind fun v9=>
  (v9[j.toNat]?).bind fun v10=>
  let U8:H0:=(ik lC ak (v9.set j.toNat (v10.1,(v10.2.1,(r7,())))))
  q7 i j m inv (IntKind.wrap .i64 (j+1)) c c2 t t2 out ak U8 aF
theorem xm (i j k m inv v a b n c c2 t t2 out ak lC aF):gZ i j k m inv v a b n c c2 t t2 out ak lC aF=qZ gZ hU aU i j k m inv v a b n c c2 t t2 out ak lC aF:=(l1 35 0 _).trans (by kernel_rfl)
def q8 (q7:af hU)(FL:af kE)(df:af aU)(i:Int)(j:Int)(m:Int)(inv:Int)(n:Int)(c:Int)(c2:xP)(t:Int)(t2:Nat)(out:Int)(ak:Nat)(lC:H0)(aF:H4):Option mJ:=
 bif (decide (n<(c2.length:Int))) then
  (idx c2 n).bind fun v0=>
  (FL v0.2.2.1 (c2.length:Int) aF).bind fun r1=>
  (ai r1.2 r1.1).bind fun v2=>
  (idx v2 i).bind fun _=>
  (ai r1.2 r1.1).bind fun v3=>
  (v3[i.toNat]?).bind fun v4=>
  (ai r1.2 r1.1).bind fun v5=>
  (idx v5 j).bind fun _=>
  (ai r1.2 r1.1).bind fun v6=>
  (v6[j.toNat]?).bind fun v7=>
  let e8:Int:=(IntKind.wrap .i64 ((IntKind.wrap .i64 (c - 1))*v7))
  bif (!(c==0)) then
  bif (!(c==0)) then
  let e9:Int:=(IntKind.wrap .i64 (((IntKind.wrap .i64 ((e8.tmod c)*inv)).tmod c)*m))
  bif (!(c==0)) then
  (ai r1.2 r1.1).bind fun v10=>
  (idx v10 i).bind fun _=>
  (ai r1.2 r1.1).bind fun v11=>
  (v11[i.toNat]?).bind fun v12=>
  let XN:H4:=(ik r1.2 r1.1 (v11.set i.toNat ((IntKind.wrap .i64 (v4+e9)).tmod c)))
  (ai XN r1.1).bind fun v14=>
  (idx v14 j).bind fun _=>
  (ai XN r1.1).bind fun v15=>
  (v15[j.toNat]?).bind fun v16=>
  bif (!(c==0)) then
  (ai XN r1.1).bind fun v17=>
  (idx v17 j).bind fun _=>
  (ai XN r1.1).bind fun v18=>
  (v18[j.toNat]?).bind fun v19=>
  let e20:H4:=(ik XN r1.1 (v18.set j.toNat ((IntKind.wrap .i64 (v16*inv)).tmod c)))
  (df r1.1 e20).bind fun r21=>
  (ai lC ak).bind fun v22=>
  (idx v22 n).bind fun _=>
  (ai lC ak).bind fun v23=>
  (v23[n.toNat]?).bind fun v24=>
  let e25:H0:=(ik lC ak (v23.set n.toNat (v24.1,(v24.2.1,(r21,())))))
  q7 i j m inv (IntKind.wrap .i64 (n+1)) c c2 t t2 out ak e25 e20
  else none
  else none
  else none
  else none
 else
  (typed (hs lC [] [] [] aF [] [] [] [] [] []) yH (.rv (.agg [⟨.int .i64,out⟩,⟨.ref 0,ak⟩]))).bind fun v26=>
  some v26
theorem xn (i j m inv n c c2 t t2 out ak lC aF):hU i j m inv n c c2 t t2 out ak lC aF=q8 hU kE aU i j m inv n c c2 t t2 out ak lC aF:=(l1 35 1 _).trans (by kernel_rfl)
def DT (q6:af gZ)(Lc:af ql)(Jy:af nT)(CD:af rq)(c:mJ)(i:Int)(j:Int)(k:Int)(m:Int):Option mJ:=
 (Lc (c.1,(c.2.1,())) ([]:H0)).bind fun r0=>
 (Jy c.1 k).bind fun r1=>
 bif (je 8 (c.2.1.length:Int) (c.2.1.length:Int)) then
 let e2:H4:=(([]:H4)++[some (List.replicate (c.2.1.length:Int).toNat 0)])
 let e3:Nat:=(([]:H4).length+1:Nat)
 (idx c.2.1 j).bind fun v4=>
 (CD v4.2.2.1 (c.2.1.length:Int)).bind fun r5=>
 (idx c.2.1 i).bind fun v6=>
 (CD v6.2.2.1 (c.2.1.length:Int)).bind fun r7=>
 q6 i j k m r1 e3 r5 r7 0 c.1 c.2.1 0 (0:Nat) r0.1.1 r0.1.2.1 r0.2 e2
 else none
theorem MX (c i j k m):tk c i j k m=DT gZ ql nT rq c i j k m:=(e1 35 _).trans (by kernel_rfl)
def p8 (p9:af eG)(p:Int)(k:Int):Option (Bool):=
 bif (decide (k<p)) then
  bif (decide (p≤251)) then
   bif (!(k==0)) then
   bif ((p.tmod k)==0) then
    some false
   else
    p9 p (IntKind.wrap .i64 (k+1))
   else none
  else
   bif (decide (p≥2)) then
    some (decide (p≤251))
   else
    some false
 else
  bif (decide (p≥2)) then
   some (decide (p≤251))
  else
   some false
theorem wx (p k):eG p k=p8 eG p k:=(l1 36 0 _).trans (by kernel_rfl)
def ui (p9:af eG)(p:Int):Option (Bool):=
 p9 p 2
theorem AX (p):ia p=ui eG p:=(e1 36 _).trans (by kernel_rfl)
def qa (qb:af fZ)(x:dk)(i:Int)(out:List Int):Option (List Int):=
 bif (decide (i<(x.length:Int))) then
  (idx x i).bind fun v0=>
  (idx x i).bind fun v1=>
  (idx out v0.1).bind fun _=>
  (out[v0.1.toNat]?).bind fun v2=>
  qb x (IntKind.wrap .i64 (i+1)) (out.set v0.1.toNat v1.2.1)
 else
  some out
theorem wy (x i out):fZ x i out=qa fZ x i out:=(l1 38 0 _).trans (by kernel_rfl)
def CE (qb:af fZ)(x:dk)(n:Int):Option (List Int):=
 bif (je 8 n n) then
 qb x 0 (List.replicate n.toNat 0)
 else none
theorem Ld (x n):rq x n=CE fZ x n:=(e1 38 _).trans (by kernel_rfl)
def nF (nG:af eT)(p:Int)(a:Int)(b:Int):Option (Int):=
 bif (decide (b<p)) then
  bif (!(p==0)) then
  bif (((IntKind.wrap .i64 (a*b)).tmod p)==1) then
   some b
  else
   nG p a (IntKind.wrap .i64 (b+1))
  else none
 else
  some 0
theorem ta (p a b):eT p a b=nF eT p a b:=(l1 60 0 _).trans (by kernel_rfl)
def zt (nG:af eT)(p:Int)(a:Int):Option (Int):=
 nG p a 1
theorem Ir (p a):nT p a=zt eT p a:=(e1 60 _).trans (by kernel_rfl)
def kt (ku:af dq)(x:dk)(out:Nat)(i:Int)(aF:H4):Option ((Nat)×H4):=
 bif (decide (i<(x.length:Int))) then
  (idx x i).bind fun v0=>
  (idx x i).bind fun v1=>
  (ai aF out).bind fun v2=>
  (idx v2 v0.1).bind fun _=>
  (ai aF out).bind fun v3=>
  (v3[v0.1.toNat]?).bind fun v4=>
  ku x out (IntKind.wrap .i64 (i+1)) (ik aF out (v3.set v0.1.toNat v1.2.1))
 else
  some (out,aF)
theorem qp (x out i aF):dq x out i aF=kt dq x out i aF:=(l1 102038 0 _).trans (by kernel_rfl)
def uR (ku:af dq)(x:dk)(n:Int)(aF:H4):Option ((Nat)×H4):=
 bif (je 8 n n) then
 let e0:H4:=(aF++[some (List.replicate n.toNat 0)])
 ku x (aF.length+1:Nat) 0 e0
 else none
theorem EL (x n aF):kE x n aF=uR dq x n aF:=(e1 102038 _).trans (by kernel_rfl)
def gN (gO:af bX)(v:Nat)(i:Int)(out:dk)(aF:H4):Option dk:=
 (ai aF v).bind fun v0=>
 bif (decide (i<(v0.length:Int))) then
  (ai aF v).bind fun v1=>
  (idx v1 i).bind fun _=>
  (ai aF v).bind fun v2=>
  (v2[i.toNat]?).bind fun v3=>
  bif (v3 != 0) then
   (ai aF v).bind fun v4=>
   (idx v4 i).bind fun _=>
   (ai aF v).bind fun v5=>
   (v5[i.toNat]?).bind fun v6=>
   bif (aG 16 2 out.length 1) then
   let e7:dk:=(out++([(i,(v6,()))]:dk))
   gO v (IntKind.wrap .i64 (i+1)) e7 aF
   else none
  else
   gO v (IntKind.wrap .i64 (i+1)) out aF
 else
  some out
theorem kv (v i out aF):bX v i out aF=gN bX v i out aF:=(l1 100040 0 _).trans (by kernel_rfl)
def oV (gO:af bX)(v:Nat)(aF:H4):Option dk:=
 gO v 0 ([]:dk) aF
theorem uS (v aF):aU v aF=oV bX v aF:=(e1 100040 _).trans (by kernel_rfl)
end
noncomputable section
def rS (lA:af cU)(a:dk)(b:dk)(i:Int):Option (Bool):=
 bif (decide (i<(a.length:Int))) then
  (idx a i).bind fun v0=>
  (idx b i).bind fun v1=>
  bif (!(Dj yT (v0.1,(v0.2.1,())) (v1.1,(v1.2.1,())))) then
   some false
  else
   lA a b (IntKind.wrap .i64 (i+1))
 else
  some true
theorem CF (a b i):cU a b i=rS cU a b i:=(l1 23 0 _).trans (by kernel_rfl)
def wz (lA:af cU)(a:dk)(b:dk):Option (Bool):=
 bif ((a.length:Int) != (b.length:Int)) then
  some false
 else
  lA a b 0
theorem FM (a b):iK a b=wz cU a b:=(e1 23 _).trans (by kernel_rfl)
end
noncomputable section
end
noncomputable section
def DV (w:Nat):af slices_SortFunc:=fun x hp=>Wp x hp
theorem CG (w:Nat):DV w=slices_SortFunc:=funext fun x=>funext fun hp=>(DB T B lf 50 ((x,()),hp)).symm
def CH (w:Nat):af lM:=fun s=>bif aG 16 2 0 s.length then some s else none
theorem HL (w:Nat):CH w=lM:=funext fun s=>(DB T B lf 84 s).symm
def uT (w:Nat):af eU:=fun s c=>bif decide (0≤c)&&decide (c<256) then some (Va c 0 s.data.toList) else none
theorem EM (w:Nat):uT w=eU:=funext fun s=>funext fun c=>(DB T B lf 165 (s,c)).symm
def uU:=w7 cU fun w x=>rS x
theorem EN:∀w,uU w=cU:=mkLe fun _=>(x3 CF)
def wA:=il iK fun w=>wz (uU w)
theorem FN:∀w,wA w=iK:=bq fun w=>by rw[EN w];exact(x2 FM)
def tb:=w7 cD fun w x=>qV x
theorem Dd:∀w,tb w=cD:=mkLe fun _=>(x3 Bn)
def uV:=il gP fun w=>uQ (tb w)
theorem EO:∀w,uV w=gP:=bq fun w=>by rw[Dd w];exact(x2 EK)
def HM:=w7 jg fun w x=>DN x
theorem P6:∀w,HM w=jg:=mkLe fun _=>(x3 ML)
def Jz:=il vt fun w=>Jq (HM w)
theorem RR:∀w,Jz w=vt:=bq fun w=>by rw[P6 w];exact(x1 RO)
def AY:=w7 eG fun w x=>p8 x
theorem JA:∀w,AY w=eG:=mkLe fun _=>(x2 wx)
def uj:=il ia fun w=>ui (AY w)
theorem A0:∀w,uj w=ia:=bq fun w=>by rw[JA w];exact(x1 AX)
def DW:=w7 eL fun w x=>mQ x
theorem MY:∀w,DW w=eL:=mkLe fun _=>(x3 qT)
def rK:=il aY fun w=>yl (DW w)
theorem DY:∀w,rK w=aY:=bq fun w=>by rw[MY w];exact(x2 DQ)
def A3:=w7 du fun w x=>kR x
theorem JB:∀w,A3 w=du:=mkLe fun _=>(x2 oz)
def oW:=il cV fun w=>tS (A3 w)
theorem sF:∀w,oW w=cV:=bq fun w=>by rw[JB w];exact(x1 AH)
def LU:=w7 jJ fun w x=>tn x
theorem TW:∀w,LU w=jJ:=mkLe fun _=>(x2 xX)
def wB:=il mo fun w=>G0 (LU w)
theorem yN:∀w,wB w=mo:=bq fun w=>by rw[TW w];exact(x1 LP)
def HN:=w7 gu fun w x=>qn x
theorem P7:∀w,HN w=gu:=mkLe fun _=>(x5 tF)
def CI:=il lL fun w=>BQ (HN w) (wB w)
theorem HO:∀w,CI w=lL:=bq fun w=>by rw[P7 w];rw[yN w];exact(x2 HF)
def HP:=il sP fun w=>zX
theorem P8:∀w,HP w=sP:=bq fun _=>(x2 Fm)
def HQ:=il sQ fun w=>zY
theorem P9:∀w,HQ w=sQ:=bq fun _=>(x3 Fo)
def Wu:=w7 uz fun w x=>DH x
theorem abV:∀w,Wu w=uz:=mkLe fun _=>(x5 G1)
def JC:=il xQ fun w=>TT (Wu w)
theorem KC:∀w,JC w=xQ:=bq fun w=>by rw[abV w];exact(x1 Wt)
def ym:=il iL fun w=>yd
theorem DZ:∀w,ym w=iL:=bq fun _=>(x1 DJ)
def An:=il jL fun w=>Af (ym w) (JC w)
theorem FO:∀w,An w=jL:=bq fun w=>by rw[DZ w,KC w];exact(x1 Fx)
def D0:=w7 (dI,eM,dJ,dK) fun w x=>(mN x.2.1 x.2.2.1,mO x.2.1 x.1,sg x.2.2.1 x.2.2.2,sh x.2.2.2)
theorem MZ:∀w,D0 w=(dI,eM,dJ,dK):=mkLe fun w=>by exact Prod.ext (x6 qL) (Prod.ext (x8 qM) (Prod.ext (x3 zg) ((x3 zh))))
def FP:=il ng fun w=>ye (D0 w).1
theorem Ox:∀w,FP w=ng:=bq fun w=>by rw[MZ w];exact(x1 DK)
def wC:=il jh fun w=>GY
theorem LV:∀w,wC w=jh:=bq fun _=>(x1 LN)
def A4:=w7 cN fun w x=>k9 x (rK w)
theorem JD:∀w,A4 w=cN:=mkLe fun w=>by rw[DY w];exact(x4 oP)
def uk:=il eB fun w=>oQ (A4 w)
theorem A5:∀w,uk w=eB:=bq fun w=>by rw[JD w];exact(x3 sC)
def xo:=w7 bT fun w x=>dM x
theorem Hc:∀w,xo w=bT:=mkLe fun _=>(x4 fg)
def zu:=il ic fun w=>qU (xo w)
theorem Is:∀w,zu w=ic:=bq fun w=>by rw[Hc w];exact(x2 xj)
def Q8:=w7 nN fun w x=>yE x
theorem XP:∀w,Q8 w=nN:=mkLe fun _=>(x3 BY)
def M0:=il ze fun w=>ME (Q8 w)
theorem Q9:∀w,M0 w=ze:=bq fun w=>by rw[XP w];exact(x2 Q4)
def Oy:=w7 lP fun w x=>B0 x
theorem Vh:∀w,Oy w=lP:=mkLe fun _=>(x2 HH)
def Ra:=il Fj fun w=>Jj (Oy w)
theorem XQ:∀w,Ra w=Fj:=bq fun w=>by rw[Vh w];exact(x2 Oj)
def Rb:=w7 qF fun w x=>jO x
theorem XR:∀w,Rb w=qF:=mkLe fun _=>(x3 kn)
def TX:=il Fk fun w=>MF (Rb w)
theorem Z4:∀w,TX w=Fk:=bq fun w=>by rw[XR w];exact(x1 Q5)
def Rc:=w7 nO fun w x=>yF x
theorem XT:∀w,Rc w=nO:=mkLe fun _=>(x1 B2)
def CJ:=il ni fun w=>MG (Rc w)
theorem D1:∀w,CJ w=ni:=bq fun w=>by rw[XT w];exact(x1 Q6)
def Qa:=il GV fun w=>KB (wB w)
theorem TY:∀w,Qa w=GV:=bq fun w=>by rw[yN w];exact(x1 MB)
def qq:=il eg fun w=>vH
theorem um:∀w,qq w=eg:=bq fun _=>(x2 BT)
def CK:=w7 fm fun w x=>iQ x (CI w)
theorem Lf:∀w,CK w=fm:=mkLe fun w=>by rw[HO w];exact(x4 kH)
def D2:=il pa fun w=>vE (CK w)
theorem M3:∀w,D2 w=pa:=bq fun w=>by rw[Lf w];exact(x2 BR)
def A6:=w7 (dx,dy) fun w x=>(kU x.1 x.2,kV x.2)
theorem JE:∀w,A6 w=(dx,dy):=mkLe fun w=>by exact Prod.ext (x2 oH) ((x2 oI))
def CL:=il fE fun w=>tV (A6 w).1
theorem Lg:∀w,CL w=fE:=bq fun w=>by rw[JE w];exact(x1 AK)
def A7:=w7 cP fun w x=>kN x
theorem JF:∀w,A7 w=cP:=mkLe fun _=>(x2 ov)
def CM:=il jZ fun w=>tN (A7 w)
theorem Lh:∀w,CM w=jZ:=bq fun w=>by rw[JF w];exact(x1 AD)
def CN:=w7 dT fun w x=>lY x
theorem Li:∀w,CN w=dT:=mkLe fun _=>(x3 pG)
def qs:=il dm fun w=>vS (CN w)
theorem uo:∀w,qs w=dm:=bq fun w=>by rw[Li w];exact(x2 Cc)
def CO:=w7 dV fun w x=>lZ x
theorem Lj:∀w,CO w=dV:=mkLe fun _=>(x1 pH)
def jc:=il bk fun w=>vT (CO w)
theorem kx:∀w,jc w=bk:=bq fun w=>by rw[Lj w];exact(x1 Cd)
def A8:=il iY fun w=>sn (uT w)
theorem JH:∀w,A8 w=iY:=bq fun w=>by rw[EM w];exact(x2 zj)
def Oz:=w7 lQ fun w x=>vK x
theorem Vi:∀w,Oz w=lQ:=mkLe fun _=>(x5 Ah)
def JI:=il uB fun w=>Jm (Oz w)
theorem OA:∀w,JI w=uB:=bq fun w=>by rw[Vi w];exact(x2 On)
def A9:=w7 dA fun w x=>pz x
theorem JJ:∀w,A9 w=dA:=mkLe fun _=>(x4 vI)
def CP:=il nk fun w=>tG (A9 w) (qq w)
theorem Lk:∀w,CP w=nk:=bq fun w=>by rw[JJ w];rw[um w];exact(x3 Ay)
def HR:=il sS fun w=>z8
theorem Qb:∀w,HR w=sS:=bq fun _=>(x2 Fq)
def sG:=il eO fun w=>su
theorem zv:∀w,sG w=eO:=bq fun _=>(x1 zn)
def uW:=il gS fun w=>nv
theorem EP:∀w,uW w=gS:=bq fun _=>(x2 sY)
def LW:=w7 jN fun w x=>tq x
theorem TZ:∀w,LW w=jN:=mkLe fun _=>(x6 yi)
def OB:=il xS fun w=>G4 (LW w)
theorem Vj:∀w,OB w=xS:=bq fun w=>by rw[TZ w];exact(x2 LR)
def CQ:=w7 dW fun w x=>dd x
theorem Ll:∀w,CQ w=dW:=mkLe fun _=>(x3 dE)
def D3:=il pb fun w=>vG (CQ w)
theorem M4:∀w,D3 w=pb:=bq fun w=>by rw[Ll w];exact(x2 BS)
def tc:=w7 bF fun w x=>fR x (jc w)
theorem De:∀w,tc w=bF:=mkLe fun w=>by rw[kx w];exact(x5 jz)
def nH:=il aZ fun w=>nC (tc w)
theorem td:∀w,nH w=aZ:=bq fun w=>by rw[De w];exact(x2 s0)
def Ba:=w7 dC fun w x=>pA x
theorem JK:∀w,Ba w=dC:=mkLe fun _=>(x2 vL)
def CS:=il ie fun w=>tK (Ba w)
theorem Lm:∀w,CS w=ie:=bq fun w=>by rw[JK w];exact(x1 AA)
def D4:=w7 eP fun w x=>jo x
theorem M5:∀w,D4 w=eP:=mkLe fun _=>(x5 l7)
def FQ:=il iN fun w=>yk (D4 w)
theorem OC:∀w,FQ w=iN:=bq fun w=>by rw[M5 w];exact(x2 DO)
def D5:=il pc fun w=>vC
theorem M6:∀w,D5 w=pc:=bq fun _=>(x1 BO)
def zw:=w7 dc fun w x=>ju x
theorem It:∀w,zw w=dc:=mkLe fun _=>(x3 ns)
def Bb:=il lS fun w=>rZ (zw w)
theorem JL:∀w,Bb w=lS:=bq fun w=>by rw[It w];exact(x1 zf)
def CT:=il nq fun w=>tD
theorem Lo:∀w,CT w=nq:=bq fun _=>(x1 Ax)
def xp:=w7 (bU,cJ) fun w x=>(iZ x.2,i7 x.2 x.1)
theorem Hd:∀w,xp w=(bU,cJ):=mkLe fun w=>by exact Prod.ext (x4 mr) ((x7 mu))
def zx:=il kg fun w=>qG (xp w).1
theorem Iu:∀w,zx w=kg:=bq fun w=>by rw[Hd w];exact(x1 w8)
def uX:=w7 bX fun w x=>gN x
theorem ER:∀w,uX w=bX:=mkLe fun _=>(x4 kv)
def oX:=il aU fun w=>oV (uX w)
theorem FR:∀w,oX w=aU:=bq fun w=>by rw[ER w];exact(x2 uS)
def uY:=w7 bY fun w x=>gK x (HP w)
theorem ES:∀w,uY w=bY:=mkLe fun w=>by rw[P8 w];exact(x4 ko)
def wD:=il iO fun w=>oe (uY w)
theorem FT:∀w,wD w=iO:=bq fun w=>by rw[ES w];exact(x2 uE)
def uZ:=w7 bZ fun w x=>gL x (HQ w)
theorem ET:∀w,uZ w=bZ:=mkLe fun w=>by rw[P9 w];exact(x8 kp)
def wE:=il iP fun w=>og (uZ w)
theorem FU:∀w,wE w=iP:=bq fun w=>by rw[ET w];exact(x2 uF)
def zy:=w7 c7 fun w x=>fS x (zu w)
theorem Iv:∀w,zy w=c7:=mkLe fun w=>by rw[Is w];exact(x3 ja)
def mW:=il bK fun w=>sw (zy w)
theorem zA:∀w,mW w=bK:=bq fun w=>by rw[Iv w];exact(x1 zp)
def tt:=il fK fun w=>Ac (M0 w)
theorem yn:∀w,tt w=fK:=bq fun w=>by rw[Q9 w];exact(x2 Fu)
def He:=il sR fun w=>MA (Qa w) (qq w)
theorem JM:∀w,He w=sR:=bq fun w=>by rw[TY w,um w];exact(x2 Q1)
def zD:=w7 c8 fun w x=>jw x (jc w)
theorem Iw:∀w,zD w=c8:=mkLe fun w=>by rw[kx w];exact(x4 nx)
def eJ:=il au fun w=>so (zD w)
theorem fH:∀w,eJ w=au:=bq fun w=>by rw[Iw w];exact(x1 zl)
def CU:=w7 dQ fun w x=>lW x
theorem Lp:∀w,CU w=dQ:=mkLe fun _=>(x3 pF)
def eQ:=il ar fun w=>vQ (CU w) (jc w)
theorem ij:∀w,eQ w=ar:=bq fun w=>by rw[Lp w];rw[kx w];exact(x2 Ca)
def D6:=il o9 fun w=>vM (A8 w)
theorem M7:∀w,D6 w=o9:=bq fun w=>by rw[JH w];exact(x2 B8)
def Bo:=il jl fun w=>G3 (CJ w)
theorem EU:∀w,Bo w=jl:=bq fun w=>by rw[D1 w];exact(x2 LQ)
def zE:=il ke fun w=>qJ (CP w)
theorem Ix:∀w,zE w=ke:=bq fun w=>by rw[Lk w];exact(x2 w9)
def JN:=w7 iM fun w x=>rI x
theorem RU:∀w,JN w=iM:=mkLe fun _=>(x4 vF)
def LZ:=il uA fun w=>EA (JN w) (HR w) (D3 w)
theorem T0:∀w,LZ w=uA:=bq fun w=>by rw[RU w];rw[Qb w,M4 w];exact(x4 Jh)
def q9:=w7 (da,db) fun w x=>(jx x.1 (eQ w),jy x.2 (eQ w))
theorem Iy:∀w,q9 w=(da,db):=mkLe fun w=>by rw[ij w];exact Prod.ext (x2 ny) ((x2 nz))
def jr:=il bL fun w=>sq (q9 w).1 (q9 w).2
theorem l9:∀w,jr w=bL:=bq fun w=>by rw[Iy w];exact(x1 zm)
def D7:=il jm fun w=>vR (sG w)
theorem M8:∀w,D7 w=jm:=bq fun w=>by rw[zv w];exact(x1 Cb)
def Bc:=w7 dz fun w x=>kO x
theorem JO:∀w,Bc w=dz:=mkLe fun _=>(x3 ow)
def oY:=il dp fun w=>tO (Bc w) (sG w)
theorem sH:∀w,oY w=dp:=bq fun w=>by rw[JO w];rw[zv w];exact(x1 AE)
def u5:=il gR fun w=>nu (uW w)
theorem EV:∀w,u5 w=gR:=bq fun w=>by rw[EP w];exact(x2 sX)
def Re:=w7 (eN,jM,gv,lR) fun w x=>(yI x.2.1 (JI w),yK x.2.2.1 x.2.1,yL x.2.2.1 x.2.2.2 x.1,yM x.2.2.2 x.1)
theorem XU:∀w,Re w=(eN,jM,gv,lR):=mkLe fun w=>by rw[OA w];exact Prod.ext (x6 B4) (Prod.ext (x8 B5) (Prod.ext (x10 B6) ((x11 B7))))
def T1:=il Fl fun w=>MH (Re w).1 (OB w) (CJ w)
theorem Z5:∀w,T1 w=Fl:=bq fun w=>by rw[XU w];rw[Vj w,D1 w];exact(x2 Q7)
def xq:=il gm fun w=>pJ (eJ w) (eQ w)
theorem Hf:∀w,xq w=gm:=bq fun w=>by rw[fH w,ij w];exact(x1 vW)
def FV:=il np fun w=>yg (CS w)
theorem OD:∀w,FV w=np:=bq fun w=>by rw[Lm w];exact(x1 DM)
def wF:=il gw fun w=>vX (oY w) (jr w) (eJ w) (FQ w) (eQ w) (qs w) (nH w)
theorem CW:∀w,wF w=gw:=bq fun w=>by rw[sH w,l9 w,fH w,OC w,ij w,uo w,td w];exact(x2 Cf)
def te:=il eC fun w=>mw (wD w)
theorem Df:∀w,te w=eC:=bq fun w=>by rw[FT w];exact(x2 rP)
def tf:=il eD fun w=>my (wE w)
theorem Dg:∀w,tf w=eD:=bq fun w=>by rw[FU w];exact(x2 rQ)
def FX:=il nc fun w=>xZ (An w) (JC w) (tt w) (FP w)
theorem OE:∀w,FX w=nc:=bq fun w=>by rw[FO w,KC w,yn w,Ox w];exact(x1 DG)
def qc:=il dv fun w=>pC (eJ w) (eQ w)
theorem wG:∀w,qc w=dv:=bq fun w=>by rw[fH w,ij w];exact(x1 vP)
def L0:=il uy fun w=>EH (D6 w)
theorem T2:∀w,L0 w=uy:=bq fun w=>by rw[M7 w];exact(x2 Jo)
def HS:=il po fun w=>Ae (Bo w)
theorem Qc:∀w,HS w=po:=bq fun w=>by rw[EU w];exact(x1 Fw)
def M9:=il zd fun w=>Mz (Qa w) (qq w) (zE w)
theorem Rf:∀w,M9 w=zd:=bq fun w=>by rw[TY w,um w,Ix w];exact(x2 Q0)
def wH:=il ji fun w=>GZ (D2 w) (He w) (LZ w)
theorem EW:∀w,wH w=ji:=bq fun w=>by rw[M3 w,JM w,T0 w];exact(x4 LO)
def D8:=il lE fun w=>vY (oW w) (D7 w)
theorem Na:∀w,D8 w=lE:=bq fun w=>by rw[sF w,M8 w];exact(x1 Cg)
def ma:=il bP fun w=>qO (eJ w) (qs w)
theorem qe:∀w,ma w=bP:=bq fun w=>by rw[fH w,uo w];exact(x2 xd)
def Be:=w7 (bC,dw,cO) fun w x=>(kJ x.2.1 x.2.2,kK x.2.1 x.1,kM x.2.2 (eQ w))
theorem JP:∀w,Be w=(bC,dw,cO):=mkLe fun w=>by rw[ij w];exact Prod.ext (x6 oi) (Prod.ext (x7 oo) ((x4 oq)))
def CX:=il fA fun w=>tM (Be w).1 (oY w) (jr w) (eJ w)
theorem Lq:∀w,CX w=fA:=bq fun w=>by rw[JP w];rw[sH w,l9 w,fH w];exact(x2 AB)
def FY:=w7 (dn,fB) fun w x=>(oc x.2 (Bo w),od x.2 x.1)
theorem OF:∀w,FY w=(dn,fB):=mkLe fun w=>by rw[EU w];exact Prod.ext (x10 si) ((x16 sj))
def HU:=il pr fun w=>Ag (FY w).1
theorem Qd:∀w,HU w=pr:=bq fun w=>by rw[OF w];exact(x2 Fy)
def Bf:=il iV fun w=>sk (u5 w)
theorem JQ:∀w,Bf w=iV:=bq fun w=>by rw[EV w];exact(x2 zi)
def Rg:=il xR fun w=>Jk (M0 w) (JI w) (CJ w) (T1 w)
theorem XV:∀w,Rg w=xR:=bq fun w=>by rw[Q9 w,OA w,D1 w,Z5 w];exact(x2 Ol)
def FZ:=il nj fun w=>yf (FV w)
theorem OG:∀w,FZ w=nj:=bq fun w=>by rw[OD w];exact(x1 DL)
def CY:=il j0 fun w=>tQ (qc w) (wF w)
theorem Lr:∀w,CY w=j0:=bq fun w=>by rw[wG w,CW w];exact(x2 AF)
def wI:=w7 (cA,ao,bp,bD) fun w x=>(iq x.1 x.2.1 (D5 w) (Bb w),ir x.2.2.1 x.2.1 x.2.2.2 (CH w) (wC w),ix x.2.2.1,iy x.2.2.2 x.2.1 (M9 w) (He w) (wH w) (wC w))
theorem F0:∀w,wI w=(cA,ao,bp,bD):=mkLe fun w=>by rw[M6 w,JL w,HL w,LV w,Rf w,JM w,EW w];exact Prod.ext (x11 lk) (Prod.ext (x11 ll) (Prod.ext (x7 ln) ((x14 lq))))
def xu:=il gp fun w=>py (wI w).1
theorem Hg:∀w,xu w=gp:=bq fun w=>by rw[F0 w];exact(x2 vD)
def u6:=w7 (bW,ah,bu,bw) fun w x=>(gE x.1 x.2.1 (CT w) (zx w),gF x.2.2.1 x.2.1 x.2.2.2 (CH w) (wC w),gI x.2.2.1,gJ x.2.2.2 x.2.1 (M9 w) (He w) (wH w) (wC w))
theorem EX:∀w,u6 w=(bW,ah,bu,bw):=mkLe fun w=>by rw[Lo w,Iu w,HL w,LV w,Rf w,JM w,EW w];exact Prod.ext (x11 ki) (Prod.ext (x11 kj) (Prod.ext (x7 kl) ((x14 km))))
def oZ:=il cB fun w=>nZ (u6 w).1
theorem u7:∀w,oZ w=cB:=bq fun w=>by rw[EX w];exact(x2 uD)
def HV:=il pj fun w=>Aa (HS w)
theorem Qe:∀w,HV w=pj:=bq fun w=>by rw[Qc w];exact(x1 Fs)
def zF:=il bO fun w=>qS (oW w) (ma w) (CX w)
theorem Iz:∀w,zF w=bO:=bq fun w=>by rw[sF w,qe w,Lq w];exact(x2 xg)
def JR:=w7 (nf,fj) fun w x=>(xT x.2 (wH w),lT x.2 (wH w))
theorem RW:∀w,JR w=(nf,fj):=mkLe fun w=>by rw[EW w];exact Prod.ext (x6 DD) ((x6 nV))
def L3:=il ux fun w=>Ey (JR w).1
theorem T3:∀w,L3 w=ux:=bq fun w=>by rw[RW w];exact(x2 Je)
def HW:=il pk fun w=>Ab (An w) (HU w) (tt w)
theorem Qf:∀w,HW w=pk:=bq fun w=>by rw[FO w,Qd w,yn w];exact(x2 Ft)
def Rh:=w7 (jK,nM) fun w x=>(yA x.2 (Bo w),yB x.2 x.1)
theorem XW:∀w,Rh w=(jK,nM):=mkLe fun w=>by rw[EU w];exact Prod.ext (x6 BV) ((x10 BW))
def T4:=il Fh fun w=>MD (Rh w).1 (Bf w)
theorem Z6:∀w,T4 w=Fh:=bq fun w=>by rw[XW w];rw[JQ w];exact(x1 Q2)
def F1:=w7 eA fun w x=>tH x (TX w) (Ra w) (JC w) (Rg w) (CJ w)
theorem OH:∀w,F1 w=eA:=mkLe fun w=>by rw[Z4 w,XQ w,KC w,XV w,D1 w];exact(x4 Az)
def HY:=il pn fun w=>Ad (F1 w)
theorem Qg:∀w,HY w=pn:=bq fun w=>by rw[OH w];exact(x2 Fv)
def wJ:=w7 (bo,cz,aI) fun w x=>(iz x.2.1 x.2.2 (jc w),mB x.2.1 x.1 (qs w) (nH w),iB x.2.2 (eQ w) (CY w) (wF w))
theorem F2:∀w,wJ w=(bo,cz,aI):=mkLe fun w=>by rw[kx w,uo w,td w,ij w,Lr w,CW w];exact Prod.ext (x8 ly) (Prod.ext (x9 rR) ((x6 lz)))
def qf:=il dB fun w=>pI (wJ w).1 (oY w) (jr w) (eJ w) (jc w)
theorem wK:∀w,qf w=dB:=bq fun w=>by rw[F2 w];rw[sH w,l9 w,fH w,kx w];exact(x2 vV)
def yO:=il gr fun w=>yz (L0 w) (T4 w) (JC w) (ym w) (tt w) (HY w)
theorem CZ:∀w,yO w=gr:=bq fun w=>by rw[T2 w,Z6 w,KC w,DZ w,yn w,Qg w];exact(x1 BU)
def OI:=il BM fun w=>G5 (yO w) (FZ w)
theorem Vk:∀w,OI w=BM:=bq fun w=>by rw[CZ w,OG w];exact(x1 LS)
def xv:=w7 cI fun w x=>nA x (qf w)
theorem Hh:∀w,xv w=cI:=mkLe fun w=>by rw[wK w];exact(x2 sZ)
def ra:=il dS fun w=>qP (xv w) (xq w)
theorem xw:∀w,ra w=dS:=bq fun w=>by rw[Hh w];rw[Hf w];exact(x2 xf)
def L4:=il uw fun w=>EG (OI w)
theorem T5:∀w,L4 w=uw:=bq fun w=>by rw[Vk w];exact(x1 Jn)
def HZ:=il pq fun w=>Ak (oW w) (CM w) (ma w) (ra w)
theorem Qh:∀w,HZ w=pq:=bq fun w=>by rw[sF w,Lh w,qe w,xw w];exact(x1 FF)
def zG:=il kf fun w=>zo (ma w) (qc w) (ra w) (qf w)
theorem IA:∀w,zG w=kf:=bq fun w=>by rw[qe w,wG w,xw w,wK w];exact(x2 Io)
def JS:=w7 dO fun w x=>rE x (yO w) (L4 w) (CI w) (te w) (tf w) (L3 w) (HW w)
theorem RX:∀w,JS w=dO:=mkLe fun w=>by rw[CZ w,T5 w,HO w,Df w,Dg w,T3 w,Qf w];exact(x9 vv)
def yP:=il jI fun w=>Ew (JS w) (wB w)
theorem C0:∀w,yP w=jI:=bq fun w=>by rw[RX w];rw[yN w];exact(x1 Jd)
def C1:=il fy fun w=>tR (D8 w) (HZ w)
theorem Ls:∀w,C1 w=fy:=bq fun w=>by rw[Na w,Qh w];exact(x1 AG)
def xx:=il gg fun w=>xi (jr w) (zG w)
theorem Hi:∀w,xx w=gg:=bq fun w=>by rw[l9 w,IA w];exact(x2 G8)
def D9:=il lD fun w=>wo (CL w) (C1 w) (uk w)
theorem Nb:∀w,D9 w=lD:=bq fun w=>by rw[Lg w,Ls w,A5 w];exact(x2 Cv)
def Ia:=il mq fun w=>z7 (yP w) (xu w)
theorem Qi:∀w,Ia w=mq:=bq fun w=>by rw[C0 w,Hg w];exact(x2 Fp)
def F3:=il kh fun w=>xW (yP w) (oZ w)
theorem OJ:∀w,F3 w=kh:=bq fun w=>by rw[C0 w,u7 w];exact(x2 DF)
def L5:=w7 (jG,im,sO,fa,iJ) fun w x=>(tl x.1 x.2.1 (yO w) (HV w) (FX w),HD x.2.2.1,HE x.2.2.2.1 x.2.1,rG x.2.2.2.1 x.2.2.2.2,rH x.2.2.2.1)
theorem T6:∀w,L5 w=(jG,im,sO,fa,iJ):=mkLe fun w=>by rw[CZ w,Qe w,OE w];exact Prod.ext (x10 xU) (Prod.ext (x9 PX) (Prod.ext (x12 PY) (Prod.ext (x13 vA) ((x10 vB)))))
def Hj:=il qD fun w=>GW (L5 w).1 (yP w)
theorem L6:∀w,Hj w=qD:=bq fun w=>by rw[T6 w];rw[C0 w];exact(x1 LM)
def F4:=il fO fun w=>xV (Ia w)
theorem OK:∀w,F4 w=fO:=bq fun w=>by rw[Qi w];exact(x1 DE)
def L7:=il lK fun w=>Ez (F3 w)
theorem T7:∀w,L7 w=lK:=bq fun w=>by rw[OJ w];exact(x1 Jf)
def Bg:=w7 b4 fun w x=>kF x (DV w)
theorem JT:∀w,Bg w=b4:=mkLe fun w=>by rw[CG w];exact(x10 nW)
def C2:=il fx fun w=>tC (Bg w) (Hj w) (oZ w)
theorem Lt:∀w,C2 w=fx:=bq fun w=>by rw[JT w];rw[L6 w,u7 w];exact(x1 Aw)
def Bh:=w7 (cM,dr) fun w x=>(kY x.2 (D9 w) (mW w),kZ x.2 x.1 (uk w) (zF w))
theorem JU:∀w,Bh w=(cM,dr):=mkLe fun w=>by rw[Nb w,zA w,A5 w,Iz w];exact Prod.ext (x2 oL) ((x4 oM))
def C3:=il jW fun w=>ug (Bh w).1
theorem Lu:∀w,C3 w=jW:=bq fun w=>by rw[JU w];exact(x1 AR)
def F5:=w7 (jT,gX,gY,cY,dH,eK) fun w x=>(Cy x.2.1 (mW w),Cz x.2.2.1 x.2.2.2.1 (oX w),CA x.2.2.1 x.2.1 (rK w),mS x.2.2.2.2.1 (mW w),mT x.2.2.2.2.2 x.2.2.2.1 (oX w),mV x.2.2.2.2.2 x.2.2.2.2.1 (rK w))
theorem OL:∀w,F5 w=(jT,gX,gY,cY,dH,eK):=mkLe fun w=>by rw[zA w,FR w,DY w];exact Prod.ext (x7 K8) (Prod.ext (x11 K9) (Prod.ext (x12 La) (Prod.ext (x9 qW) (Prod.ext (x12 qX) ((x13 qY))))))
def Ib:=il jH fun w=>Am (F5 w).1 (uj w) (C3 w)
theorem Qj:∀w,Ib w=jH:=bq fun w=>by rw[OL w];rw[A0 w,Lu w];exact(x2 FK)
def zJ:=il kd fun w=>zk (Ib w)
theorem IB:∀w,zJ w=kd:=bq fun w=>by rw[Qj w];exact Im.symm
def Nc:=il jS fun w=>B9 (zJ w) (F4 w) (L7 w) (C2 w) (Hj w) (wA w) (Jz w) (uV w)
theorem Lv:∀w,Nc w=jS:=bq fun w=>by rw[IB w,OK w,T7 w,Lt w,L6 w,FN w,RR w,EO w];exact KW.symm
end
end Go.Proofs.YtofjebmoebhiiaaGreatDoor.Ev
namespace Go.Proofs.YtofjebmoebhiiaaGreatDoor.clearLaid
open Go.ChangeShapes Go.WideShapes Go.ChangeAt Go.RowKit
abbrev laid:List (String×DataW Unit):=[("torus/clear.standard",Rows.laid_torus_clear_standard),("torus/clear.twist",Rows.laid_torus_clear_twist)]
theorem own:ownKnob Tryz.prog.godebug=none:=by kernel_rfl
theorem g0:Tryz.prog.globalNamed "torus/clear.standard" =some 0:=by kernel_rfl
theorem g1:Tryz.prog.globalNamed "torus/clear.twist" =some 1:=by kernel_rfl
theorem t0:(Tryz.prog.globals[0]?).map (·.type)=some 86:=by kernel_rfl
theorem t1:(Tryz.prog.globals[1]?).map (·.type)=some 86:=by kernel_rfl
theorem ah2 (os:Os)(args:Array Value):laidMetH Tryz.prog laid ((World.doorLaid Tryz.prog 19 os).forCall (fun _ _=>0) ⟨#[],args,[]⟩).memory:=
 laidMetH_of_parts3 (fuel:=8) (laidMet_of_run' 8 (by kernel_rfl) (by kernel_rfl)) (by kernel_rfl) (by kernel_rfl)
theorem akr {W:World}(h:laidMetH Tryz.prog laid W):W.cell? ⟨0,0,none⟩=some (.func (.func 196) #[] #[])∧W.cell? ⟨0,1,none⟩=some (.bool false)∧
  W.cell? ⟨1,0,none⟩=some (.func (.func 198) #[] #[])∧W.cell? ⟨1,1,none⟩=some (.bool true):=by
 have one:∀(name:String) (gn:Nat) (b0:UInt8) (r:List UInt8) (b:Bool) (f0:FuncId),(name,DataW.iface "func table" (.agg [.iface "func" (.lit (.string (b0::r))), .lit (.bool b)]))∈laid→Tryz.prog.globalNamed name=some gn→(Tryz.prog.globals[gn]?).map (·.type)=some 86→
   (((List.range Tryz.prog.funcs.size).filter fun f=>(Tryz.prog.funcs[f]?).any (·.name.toUTF8.data.toList==b0::r))=[f0])→W.cell? ⟨gn,0,none⟩=some (.func (.func f0) #[] #[])∧W.cell? ⟨gn,1,none⟩=some (.bool b):=by
  intro name gn b0 r b f0 hm hgn htn hone;obtain⟨g,t,cs,fuel,p,hg,ht,hv,hd⟩:=h.funcs hm;obtain rfl:=Option.some.inj (hgn.symm.trans hg);obtain rfl:=Option.some.inj (htn.symm.trans ht);have YF:DataW.trod (funcToken Tryz.prog) Tryz.prog W 0 (fun _=>true) true fuel 86 cs.toList=some (.agg [.held (b0::r), .lit (.bool b)],p):=hd;obtain⟨y0,y1,n,hx,hl,h0,h1⟩:=trod_struct2 Tryz.underlying86 YF;have hl':cs.toList.length=2:=hl.trans (by kernel_rfl);obtain⟨l⟩:=cs;simp only at hl' h0 h1
  match l,hl' with
  | [c0,c1],_=>
    have e84:Tryz.prog.cellsOf 84=1:=by kernel_rfl
    have e4:Tryz.prog.cellsOf 4=1:=by kernel_rfl
    rw[e84] at h0;rw[e4] at h1;simp only[Prod.mk.injEq,DataW.agg.injEq,List.cons.injEq,and_true] at hx;have k0:DataW.trod (funcToken Tryz.prog) Tryz.prog W 0 (fun _=>true) true n 84 [c0]=some (.held (b0::r),y0.2):=by have h0':DataW.trod (funcToken Tryz.prog) Tryz.prog W 0 (fun _=>true) true n 84 [c0]=some y0:=h0;rw[h0',hx.1.1]
    obtain rfl:=func_of_trod (f0:=f0) Tryz.underlying84 hone k0;have v0:=World.var?_cell hgn hv 0;have v1:=World.var?_cell hgn hv 1;obtain⟨b',e1,e2⟩:=DataW.trod_bool Tryz.underlying4 (show DataW.trod (funcToken Tryz.prog) Tryz.prog W 0 (fun _=>true) true n 4 [c1]=some y1 from h1);simp only[List.cons.injEq,and_true] at e1;subst e1;have e3:=hx.1.2;rw[e2] at e3;simp only[DataW.lit.injEq,Lit.bool.injEq] at e3;subst e3;exact⟨v0,v1⟩
 obtain⟨a1,a2⟩:=one "torus/clear.standard" 0 _ _ false 196 (List.mem_cons_self ..) g0 t0 (by kernel_rfl)
 obtain⟨a3,a4⟩:=one "torus/clear.twist" 1 _ _ true 198 (List.mem_cons_of_mem _ (List.mem_cons_self ..)) g1 t1 (by kernel_rfl)
 exact⟨a1,a2,a3,a4⟩
theorem aks {W:World}(h:laidMetH Tryz.prog laid W):Go.Abs.Xw Ev.T (fun key u=>∃ad:Addr,key= .cell ad∧∃Pw:Addr,Go.Abs.Key.cell ad= .cell Pw∧W.cell? Pw=some u):=by
 obtain⟨a1,a2,a3,a4⟩:=akr h;have one:∀(gn f0:Nat) (b:Bool),W.cell? ⟨gn,0,none⟩=some (.func (.func f0) #[] #[])→W.cell? ⟨gn,1,none⟩=some (.bool b)→
   Go.Abs.qy (fun key u=>∃ad:Addr,key= .cell ad∧∃Pw:Addr,Go.Abs.Key.cell ad= .cell Pw∧W.cell? Pw=some u) [⟨.fn,f0+1⟩,⟨.bool,b⟩] (.pointer (some ⟨gn,0,none⟩)):=fun gn f0 b h1 h2=>
  ⟨⟨gn,0,none⟩,[.func (.func f0) #[] #[], .bool b],rfl,⟨rfl,rfl,trivial⟩,fun j u hj=>by
    match j,hj with
    |0,hj=>cases hj;exact⟨_,rfl,_,rfl,h1⟩
    |1,hj=>cases hj;exact⟨_,rfl,_,rfl,h2⟩
    |j+2,hj=>simp at hj⟩
 intro i x hx;have hx':Go.Abs.look [(1000000000,Go.Abs.AV.pg [⟨.fn,(197:Nat)⟩,⟨.bool,false⟩]),(1000000001,Go.Abs.AV.pg [⟨.fn,(199:Nat)⟩,⟨.bool,true⟩])] i=some x:=hx;have hm:=Go.Abs.y5 hx';simp only[List.mem_cons,List.not_mem_nil,or_false,Prod.mk.injEq] at hm;rcases hm with ⟨rfl,rfl⟩ | ⟨rfl,rfl⟩
 ·exact⟨0,_,rfl,rfl,one 0 196 false a1 a2⟩
 ·exact⟨1,_,rfl,rfl,one 1 198 true a3 a4⟩
end Go.Proofs.YtofjebmoebhiiaaGreatDoor.clearLaid
namespace Go.Proofs.YtofjebmoebhiiaaGreatDoor
open Go.Shelf Go.Proofs
def XX:Go.Shelf.Ren:=⟨fun |6=>50 |15=>91 |14=>90 |28=>132 |29=>133 |20=>124 |21=>125 |22=>126 |23=>127 |24=>128 |25=>129 |26=>130 |27=>131 |46=>156 |47=>157 |48=>158 |49=>159 |50=>160 |57=>172 |n=>n,fun |22=>46 |24=>58 |25=>98 |3=>3 |39=>149 |0=>0 |53=>168 |55=>171 |4=>4 |46=>184 |45=>183 |50=>140 |5=>5 |9=>9 |66=>209 |70=>213 |76=>222 |77=>223 |n=>n,fun |n=>n⟩
theorem Z7:Go.Proofs.SlLaysF0.n6 Tryz.prog XX where
 mixed:=by kernel_rfl
 f6:=⟨"slices.SortFunc[[]torus/api.Pair,torus/api.Pair]",by decide,Tryz.func50.trans (congrArg some (by kernel_rfl))⟩
 f14:=⟨"slices.pdqsortCmpFunc[torus/api.Pair]",by decide,Tryz.func90.trans (congrArg some (by kernel_rfl))⟩
 f15:=Tryz.func91.trans (congrArg some (by kernel_rfl))
 f20:=⟨"slices.insertionSortCmpFunc[torus/api.Pair]",by decide,Tryz.func124.trans (congrArg some (by kernel_rfl))⟩
 f21:=⟨"slices.heapSortCmpFunc[torus/api.Pair]",by decide,Tryz.func125.trans (congrArg some (by kernel_rfl))⟩
 f22:=⟨"slices.breakPatternsCmpFunc[torus/api.Pair]",by decide,Tryz.func126.trans (congrArg some (by kernel_rfl))⟩
 f23:=⟨"slices.choosePivotCmpFunc[torus/api.Pair]",by decide,Tryz.func127.trans (congrArg some (by kernel_rfl))⟩
 f24:=⟨"slices.reverseRangeCmpFunc[torus/api.Pair]",by decide,Tryz.func128.trans (congrArg some (by kernel_rfl))⟩
 f25:=⟨"slices.partialInsertionSortCmpFunc[torus/api.Pair]",by decide,Tryz.func129.trans (congrArg some (by kernel_rfl))⟩
 f26:=⟨"slices.partitionEqualCmpFunc[torus/api.Pair]",by decide,Tryz.func130.trans (congrArg some (by kernel_rfl))⟩
 f27:=⟨"slices.partitionCmpFunc[torus/api.Pair]",by decide,Tryz.func131.trans (congrArg some (by kernel_rfl))⟩
 f28:=Tryz.func132.trans (congrArg some (by kernel_rfl))
 f29:=Tryz.func133.trans (congrArg some (by kernel_rfl))
 f46:=⟨"slices.siftDownCmpFunc[torus/api.Pair]",by decide,Tryz.func156.trans (congrArg some (by kernel_rfl))⟩
 f47:=Tryz.func157.trans (congrArg some (by kernel_rfl))
 f48:=Tryz.func158.trans (congrArg some (by kernel_rfl))
 f49:=⟨"slices.medianAdjacentCmpFunc[torus/api.Pair]",by decide,Tryz.func159.trans (congrArg some (by kernel_rfl))⟩
 f50:=⟨"slices.medianCmpFunc[torus/api.Pair]",by decide,Tryz.func160.trans (congrArg some (by kernel_rfl))⟩
 f57:=⟨"slices.order2CmpFunc[torus/api.Pair]",by decide,Tryz.func172.trans (congrArg some (by kernel_rfl))⟩
 t0:=Tryz.underlying0
 a0:=Tryz.isAgg0
 z0:=Tryz.sizeOf0
 v0:=Tryz.zeroValue0
 t3:=Tryz.underlying3
 a3:=Tryz.isAgg3
 z3:=Tryz.sizeOf3
 v3:=Tryz.zeroValue3
 t4:=Tryz.underlying4
 a4:=Tryz.isAgg4
 z4:=Tryz.sizeOf4
 v4:=Tryz.zeroValue4
 t5:=Tryz.underlying5
 a5:=Tryz.isAgg5
 z5:=Tryz.sizeOf5
 v5:=Tryz.zeroValue5
 t9:=Tryz.underlying9
 a9:=Tryz.isAgg9
 z9:=Tryz.sizeOf9
 v9:=Tryz.zeroValue9
 t22:=Tryz.underlying46
 a22:=Tryz.isAgg46
 z22:=Tryz.sizeOf46
 v22:=Tryz.zeroValue46
 t25:=Tryz.underlying98
 a25:=Tryz.isAgg98
 z25:=Tryz.sizeOf98
 v25:=Tryz.zeroValue98
 t39:=Tryz.underlying149
 a39:=Tryz.isAgg149
 z39:=Tryz.sizeOf149
 v39:=Tryz.zeroValue149
 t45:=Tryz.underlying183
 a45:=Tryz.isAgg183
 z45:=Tryz.sizeOf183
 v45:=Tryz.zeroValue183
 t46:=Tryz.underlying184
 a46:=Tryz.isAgg184
 z46:=Tryz.sizeOf184
 v46:=Tryz.zeroValue184
 t50:=Tryz.underlying140
 a50:=Tryz.isAgg140
 z50:=Tryz.sizeOf140
 v50:=Tryz.zeroValue140
 t53:=Tryz.underlying168
 a53:=Tryz.isAgg168
 z53:=Tryz.sizeOf168
 v53:=Tryz.zeroValue168
 t55:=Tryz.underlying171
 a55:=Tryz.isAgg171
 z55:=Tryz.sizeOf171
 v55:=Tryz.zeroValue171
 t66:=Tryz.underlying209
 a66:=Tryz.isAgg209
 z66:=Tryz.sizeOf209
 v66:=Tryz.zeroValue209
 t70:=Tryz.underlying213
 a70:=Tryz.isAgg213
 z70:=Tryz.sizeOf213
 v70:=Tryz.zeroValue213
 t76:=Tryz.underlying222
 a76:=Tryz.isAgg222
 z76:=Tryz.sizeOf222
 v76:=Tryz.zeroValue222
 t77:=Tryz.underlying223
 a77:=Tryz.isAgg223
 z77:=Tryz.sizeOf223
 v77:=Tryz.zeroValue223
end Go.Proofs.YtofjebmoebhiiaaGreatDoor
namespace Go.Proofs.YtofjebmoebhiiaaGreatDoor.Ev
open Go.Abs
abbrev Up (l:List (Int×Int×Unit)):Prop:=l.Pairwise fun a b=>a.1<b.1
theorem T8 {x y:Int×Int×Unit}:∀{l:List (Int×Int×Unit)},y∈Z1 x l↔y=x∨y∈l
 | []=>by simp[Z1]
 |z::r=>by
  unfold Z1;cases decide (x.1<z.1) with
  |true=>simp
  |false=>simp only[cond_false,List.mem_cons,T8 (l:=r)];constructor<;>rintro (h |h |h)<;>simp[h]
theorem KD {y:Int×Int×Unit}:∀{l:List (Int×Int×Unit)},y∈sN l↔y∈l
 | []=>by simp[sN]
 |x::r=>by rw[sN,T8,KD (l:=r)];simp
theorem adz {x:Int×Int×Unit}:∀{l:List (Int×Int×Unit)},Up l→(∀y∈l,x.1≠y.1)→Up (Z1 x l)
 | [],_,_=>by simp[Z1,Up]
 |z::r,h,hn=>by
  unfold Z1;have h':=List.pairwise_cons.1 h;by_cases e:x.1<z.1
  ·rw[show decide (x.1<z.1)=true by simpa using e,cond_true];exact List.pairwise_cons.2 ⟨fun y hy=>by
    rcases List.mem_cons.1 hy with rfl |hy
    ·exact e
    ·have:=h'.1 y hy;omega,h⟩
  ·rw[show decide (x.1<z.1)=false by simpa using e,cond_false];refine List.pairwise_cons.2 ⟨fun y hy=> ?_,adz h'.2 fun y hy=>hn y (List.mem_cons_of_mem _ hy)⟩;rcases T8.1 hy with rfl |hy
   ·have:=hn z (List.mem_cons_self);omega
   ·exact h'.1 y hy
abbrev Ds (l:List (Int×Int×Unit)):Prop:=l.Pairwise fun a b=>a.1≠b.1
theorem T9:∀{l:List (Int×Int×Unit)},Ds l→Up (sN l)
 | [],_=>List.Pairwise.nil
 |x::r,h=>by have h':=List.pairwise_cons.1 h;exact adz (T9 h'.2) fun y hy=>h'.1 y (KD.1 hy)
theorem abW:∀{a b:List (Int×Int×Unit)},Up a→Up b→(∀x,x∈a↔x∈b)→a=b
 | [],[],_,_,_=>rfl
 | [],y::s,_,_,h=>by have:=(h y).2 List.mem_cons_self;cases this
 |x::r,[],_,_,h=>by have:=(h x).1 List.mem_cons_self;cases this
 |x::r,y::s,ha,hb,h=>by
  have ha':=List.pairwise_cons.1 ha;have hb':=List.pairwise_cons.1 hb;have e:x=y:=by
   rcases List.mem_cons.1 ((h x).1 List.mem_cons_self) with e |h1
   ·exact e
   ·rcases List.mem_cons.1 ((h y).2 List.mem_cons_self) with e |h2
    ·exact e.symm
    ·have:=hb'.1 x h1;have:=ha'.1 y h2;omega
  subst e;rw[abW ha'.2 hb'.2 fun z=> ?_];constructor
  ·intro hz;rcases List.mem_cons.1 ((h z).1 (List.mem_cons_of_mem _ hz)) with rfl |h3
   ·have:=ha'.1 _ hz;omega
   ·exact h3
  ·intro hz;rcases List.mem_cons.1 ((h z).2 (List.mem_cons_of_mem _ hz)) with rfl |h3
   ·have:=hb'.1 _ hz;omega
   ·exact h3
theorem XY:∀{l:List (Int×Int×Unit)},okT l=true↔(∀x∈l,0≤x.1∧x.1<1000000000)∧Ds l
 | []=>by simp[okT,Ds]
 |x::r=>by
  rw[okT];simp only[Bool.and_eq_true,decide_eq_true_eq,List.all_eq_true,Bool.not_eq_true',decide_eq_false_iff_not,XY (l:=r),List.mem_cons,forall_eq_or_imp,Ds,List.pairwise_cons];constructor
  ·rintro ⟨⟨⟨h1,h2⟩,h3⟩,h4,h5⟩;exact⟨⟨⟨h1,h2⟩,h4⟩,h3,h5⟩
  ·rintro ⟨⟨⟨h1,h2⟩,h4⟩,h3,h5⟩;exact⟨⟨⟨h1,h2⟩,h3⟩,h4,h5⟩
theorem Ds.perm {a b:List (Int×Int×Unit)}(h:a.Perm b)(hd:Ds a):Ds b:=(h.pairwise_iff (R:=fun a b:Int×Int×Unit=>a.1≠b.1) (fun h=>Ne.symm h)).1 hd
theorem ah3 {l l':List (Int×Int×Unit)}(hd:Ds l)(hp:l'.Perm l)(hs:l'.Pairwise fun a b=>a.1≤b.1):l'=sN l:=by
 have YF:Ds l':=hd.perm hp.symm;refine abW ?_ (T9 hd) fun x=>by rw[KD,hp.mem_iff]
 exact(hs.and YF).imp fun⟨h1,h2⟩=>by omega
open Go.Shelf Go.RowKit Go.Lib Go.Sort Go.Proofs
abbrev El:=Fin 1000000000×Int
instance:Inhabited El:=⟨(⟨0,by decide⟩,0)⟩
def JV (x:El):List Value:=[.int .i64 (x.1.val:Int), .int .i64 x.2]
def Vl (t:Int×Int×Unit):El:=(⟨t.1.toNat % 1000000000,Nat.mod_lt _ (by decide)⟩,t.2.1)
def ofE (x:El):Int×Int×Unit:=((x.1.val:Int),x.2,())
def cfE (x y:El):Int:=(x.1.val:Int) - y.1.val
theorem ltE (x y:El):ltOf cfE x y=decide (x.1.val<y.1.val):=by unfold ltOf cfE;by_cases h:x.1.val<y.1.val<;>simp[h]<;>omega
theorem aq9:SWO (ltOf cfE) where
 irrefl x:=by rw[ltE];simp
 trans x y z h1 h2:=by rw[ltE] at*;simp at*;omega
 ntrans x y z h1 h2:=by rw[ltE] at*;simp at*;omega
theorem alC {t:Int×Int×Unit}(h:0≤t.1∧t.1<1000000000):ofE (Vl t)=t:=by
 obtain⟨a,b,u⟩:=t;simp only at h;have:((a.toNat % 1000000000:Nat):Int)=a:=by omega
 show (((a.toNat % 1000000000:Nat):Int),b,())=(a,b,u)
 rw[this]
set_option maxHeartbeats 1000000 in
theorem afh (x y:El)(W:World):Calls Tryz.prog 51 #[.agg #[.int .i64 (x.1.val:Int), .int .i64 x.2], .agg #[.int .i64 (y.1.val:Int), .int .i64 y.2]] W fun e w'=>e= .returned (.int .i64 (cfE x y))∧∃q os',w'=grow (W.drewN q) os':=by
 have hw:IntKind.i64.wrap ((x.1.val:Int) - (y.1.val:Int))=cfE x y:=by have:=x.1.isLt;have:=y.1.isLt;unfold cfE;simp[IntKind.wrap,IntKind.bits,IntKind.signed];omega
 generalize cfE x y=r at hw ⊢
 go_enter Tryz.func51,Tryz.ntmps51
 go_wp2
 go_ret
 exact⟨rfl,0,_,by rw[alloc_eq_grow,alloc_eq_grow,grow_grow];rfl⟩
theorem afi (blk off size:Nat)(w:World):CmpLays Tryz.prog 51 #[] JV 2 cfE blk off size w:=fun _ _ _ _ x y=>afh x y _
theorem akt:∀args w,(callFunc 51 args).run Tryz.prog w= .ok (.enter 51 args) w:=enters_of Tryz.func51 (by kernel_rfl) rfl
theorem amQ (blk cap:Nat)(d:Array El)(w:World)(hH:HoldsK JV 2 w blk 0 d)(hblk:blk<w.heap.size)(hsz:d.size<4611686018427387904):
  Calls Tryz.prog 50 #[.slice (some ⟨blk,0,none⟩) d.size cap, .func (.func 51) #[] #[]] w fun e w'=>e= .returned (.tuple #[])∧∃d' n os,PermIn 0 d.size d d'∧SortedIn (ltOf cfE) 0 d.size d'∧w'=sortWorldK JV 2 w blk 0 n d' os:=
 AnyQ.slices_SortFunc Z7 2 Tryz.isAgg58 Tryz.sizeOf58 JV (fun _=>rfl) (fun x v hv=>by simp[JV] at hv;rcases hv with rfl |rfl<;>rfl) cfE aq9 51 #[] blk 0 cap d w akt (afi blk 0 d.size w) hH hblk hsz
theorem Z8 (cap:Nat)(p:Option Addr)(fv:Value)(w:World):Calls Tryz.prog 50 #[.slice p 0 cap,fv] w fun e w'=>e= .returned (.tuple #[])∧w'=w:=AnyF.slices_SortFunc_none Z7 p cap fv w
end Go.Proofs.YtofjebmoebhiiaaGreatDoor.Ev
