/- YtofjebmoebhiiaaGreatDoorKd: a part of the proof (Tab, Defs, Eqchain ..). No condition. -/
import Derived.Test.YtofjebmoebhiiaaGreatDoorKc
import Derived.KernelRfl
import Derived.Test.YtofjebmoebhiiaaGreatDoorProg
import Derived.Test.YtofjebmoebhiiaaGreatDoorTie
import Derived.Test.YtofjebmoebhiiaaGreatDoorCards
import Derived.WalkKit
import Derived.ProofKit
import Derived.OpenShut
import Derived.ShutString
import Derived.ChangeOld
import Derived.Below
import Derived.SizedLaws
import Derived.LaidMore
import Derived.Stop.Joined
import Derived.Shelf.SlLaysF0
import Derived.Shelf.SlSortCmp.NoneTotal
set_option linter.unusedVariables false
set_option linter.unusedSimpArgs false
set_option maxRecDepth 100000
set_option exponentiation.threshold 2000
namespace Go.Proofs.YtofjebmoebhiiaaGreatDoor.Ev
open Go.Abs
abbrev ff:Bool:=false
abbrev zI:Ty:= .int .i64
abbrev zT:Ty:= .pair zI (.pair zI .unit)
abbrev zC:Ty:= .pair zI (.pair .str (.pair (.slice (.st zT)) .unit))
abbrev zR:Ty:= .pair zI (.pair .str (.pair (.ref 2) .unit))
abbrev zH:Ty:= .st (.pair zI (.pair (.slice (.st zC)) .unit))
abbrev zW:Ty:= .st (.pair (.slice (.slice zI)) (.pair (.slice zI) (.pair zI (.pair (.slice zI) .unit))))
abbrev zB:List (Ty×Option Nat):=[(.bool,none)]
def tys:List fE:=[
 ⟨1, .fn,8,0,[],false⟩,
 ⟨2,zI,8,0,[],false⟩,
 ⟨3,zI,8,0,[],false⟩,
 ⟨4, .bool,1,0,[],false⟩,
 ⟨5,(.int .u8),1,0,[],false⟩,
 ⟨6,(.int .u8),1,0,[],false⟩,
 ⟨7,(.st (.pair zI (.pair zI (.pair .bool (.pair (.int .u8) .unit))))),24,0,[(0,1),(1,1),(2,1),(3,1)],false⟩,
 ⟨8,(.st (.pair zI (.pair zI (.pair .bool (.pair (.int .u8) .unit))))),24,0,[(0,1),(1,1),(2,1),(3,1)],false⟩,
 ⟨9, .str,16,0,[],false⟩,
 ⟨10, .str,16,0,[],false⟩,
 ⟨11, .str,16,0,[],false⟩,
 ⟨12,(.int .u64),8,0,[],false⟩,
 ⟨13,(.st (.pair .str (.pair (.int .u64) .unit))),24,0,[(0,1),(1,1)],false⟩,
 ⟨14,(.st (.pair .str (.pair (.int .u64) .unit))),24,0,[(0,1),(1,1)],false⟩,
 ⟨21,(.int .i32),4,0,[],false⟩,
 ⟨22,(.slice (.st zC)),24,42,[],false⟩,
 ⟨23,(.st (.pair zI (.pair (.ref 0) .unit))),32,0,[(0,1),(1,1)],false⟩,
 ⟨24,(.st (.pair zI (.pair (.ref 0) .unit))),32,0,[(0,1),(1,1)],false⟩,
 ⟨25,(.slice (.slice zI)),24,26,[],false⟩,
 ⟨26,(.slice zI),24,3,[],false⟩,
 ⟨27,zW,80,0,[(0,1),(1,1),(2,1),(3,1)],false⟩,
 ⟨28,zW,80,0,[(0,1),(1,1),(2,1),(3,1)],false⟩,
 ⟨29, .fn,8,0,[],false⟩,
 ⟨30, .fn,8,0,[],false⟩,
 ⟨31, .fn,8,0,[],false⟩,
 ⟨32,(.slice (.st (.pair zI (.pair (.ref 0) .unit)))),24,24,[],false⟩,
 ⟨33, .fn,8,0,[],false⟩,
 ⟨34,zI,8,0,[],false⟩,
 ⟨35, .fn,8,0,[],false⟩,
 ⟨37, .fn,8,0,[],false⟩,
 ⟨38, .fn,8,0,[],false⟩,
 ⟨39, .str,16,0,[],false⟩,
 ⟨40,(.slice (.st zT)),24,44,[],false⟩,
 ⟨41,(.st zC),48,0,[(0,1),(1,1),(2,1)],false⟩,
 ⟨42,(.st zC),48,0,[(0,1),(1,1),(2,1)],false⟩,
 ⟨43,(.st zT),16,0,[(0,1),(1,1)],false⟩,
 ⟨44,(.st zT),16,0,[(0,1),(1,1)],false⟩,
 ⟨45, .fn,8,0,[],false⟩,
 ⟨46,(.slice (.st zT)),24,58,[],false⟩,
 ⟨47,(.st zT),16,0,[(0,1),(1,1)],false⟩,
 ⟨48,(.st zT),16,0,[(0,1),(1,1)],false⟩,
 ⟨50, .fn,8,0,[],false⟩,
 ⟨51, .fn,8,0,[],false⟩,
 ⟨53, .fn,8,0,[],false⟩,
 ⟨54, .fn,8,0,[],false⟩,
 ⟨55, .fn,8,0,[],false⟩,
 ⟨56, .fn,8,0,[],false⟩,
 ⟨57,(.st zT),16,0,[(0,1),(1,1)],false⟩,
 ⟨58,(.st zT),16,0,[(0,1),(1,1)],false⟩,
 ⟨59, .fn,8,0,[],false⟩,
 ⟨60, .fn,8,0,[],false⟩,
 ⟨61, .fn,8,0,[],false⟩,
 ⟨62,(.slice (.st (.pair (.slice zI) (.pair .str .unit)))),24,101,[],false⟩,
 ⟨63,(.slice (.st (.pair (.slice zI) (.pair .str .unit)))),24,101,[],false⟩,
 ⟨64, .fn,8,0,[],false⟩,
 ⟨65, .fn,8,0,[],false⟩,
 ⟨66, .fn,8,0,[],false⟩,
 ⟨67, .fn,8,0,[],false⟩,
 ⟨68, .fn,8,0,[],false⟩,
 ⟨69, .fn,8,0,[],false⟩,
 ⟨70, .fn,8,0,[],false⟩,
 ⟨71, .fn,8,0,[],false⟩,
 ⟨72, .fn,8,0,[],false⟩,
 ⟨73,(.slice (.int .u32)),24,168,[],false⟩,
 ⟨74,(.st (.pair .bool (.pair (.slice (.int .u32)) .unit))),32,0,[(0,1),(1,1)],false⟩,
 ⟨75,(.st (.pair .bool (.pair (.slice (.int .u32)) .unit))),32,0,[(0,1),(1,1)],false⟩,
 ⟨76,(.st (.pair (.st (.pair .bool (.pair (.slice (.int .u32)) .unit))) (.pair (.st (.pair .bool (.pair (.slice (.int .u32)) .unit))) .unit))),64,0,[(0,2),(2,2)],false⟩,
 ⟨77,(.st (.pair (.st (.pair .bool (.pair (.slice (.int .u32)) .unit))) (.pair (.st (.pair .bool (.pair (.slice (.int .u32)) .unit))) .unit))),64,0,[(0,2),(2,2)],false⟩,
 ⟨79, .fn,8,0,[],false⟩,
 ⟨80, .fn,8,0,[],false⟩,
 ⟨81, .fn,8,0,[],false⟩,
 ⟨83, .fn,8,0,[],false⟩,
 ⟨84, .fn,8,0,[],false⟩,
 ⟨85,(.st (.pair .fn (.pair .bool .unit))),16,0,[(0,1),(1,1)],false⟩,
 ⟨86,(.st (.pair .fn (.pair .bool .unit))),16,0,[(0,1),(1,1)],false⟩,
 ⟨87, .fn,8,0,[],false⟩,
 ⟨88, .fn,8,0,[],false⟩,
 ⟨89,(.ptr 5),8,0,[],false⟩,
 ⟨90, .fn,8,0,[],false⟩,
 ⟨91, .fn,8,0,[],false⟩,
 ⟨92, .fn,8,0,[],false⟩,
 ⟨93,(.slice .bool),24,4,[],false⟩,
 ⟨94,(.st (.pair zH (.pair (.ref 6) (.pair (.ref 4) (.pair (.ref 7) zT))))),120,0,[(0,2),(2,1),(3,1),(4,1),(5,1),(6,1)],false⟩,
 ⟨95,(.st (.pair zH (.pair (.ref 6) (.pair (.ref 4) (.pair (.ref 7) zT))))),120,0,[(0,2),(2,1),(3,1),(4,1),(5,1),(6,1)],false⟩,
 ⟨97, .fn,8,0,[],false⟩,
 ⟨98, .fn,8,0,[],false⟩,
 ⟨99,(.slice zI),24,3,[],false⟩,
 ⟨100,(.st (.pair (.slice zI) (.pair .str .unit))),40,0,[(0,1),(1,1)],false⟩,
 ⟨101,(.st (.pair (.slice zI) (.pair .str .unit))),40,0,[(0,1),(1,1)],false⟩,
 ⟨102, .fn,8,0,[],false⟩,
 ⟨103, .fn,8,0,[],false⟩,
 ⟨104,(.slice (.slice zI)),24,99,[],false⟩,
 ⟨105, .fn,8,0,[],false⟩,
 ⟨106,(.slice .str),24,39,[],false⟩,
 ⟨107, .fn,8,0,[],false⟩,
 ⟨109, .fn,8,0,[],false⟩,
 ⟨110, .fn,8,0,[],false⟩,
 ⟨111, .fn,8,0,[],false⟩,
 ⟨112, .fn,8,0,[],false⟩,
 ⟨113, .fn,8,0,[],false⟩,
 ⟨114, .fn,8,0,[],false⟩,
 ⟨115, .fn,8,0,[],false⟩,
 ⟨116, .fn,8,0,[],false⟩,
 ⟨117, .fn,8,0,[],false⟩,
 ⟨118, .str,16,0,[],false⟩,
 ⟨120, .fn,8,0,[],false⟩,
 ⟨121, .fn,8,0,[],false⟩,
 ⟨122, .fn,8,0,[],false⟩,
 ⟨123, .fn,8,0,[],false⟩,
 ⟨124, .fn,8,0,[],false⟩,
 ⟨125, .fn,8,0,[],false⟩,
 ⟨127, .fn,8,0,[],false⟩,
 ⟨129, .fn,8,0,[],false⟩,
 ⟨130, .fn,8,0,[],false⟩,
 ⟨131, .fn,8,0,[],false⟩,
 ⟨132, .fn,8,0,[],false⟩,
 ⟨133, .fn,8,0,[],false⟩,
 ⟨134, .fn,8,0,[],false⟩,
 ⟨135, .fn,8,0,[],false⟩,
 ⟨136,(.slice (.slice (.st zT))),24,40,[],false⟩,
 ⟨137, .fn,8,0,[],false⟩,
 ⟨138, .fn,8,0,[],false⟩,
 ⟨139, .fn,8,0,[],false⟩,
 ⟨141, .fn,8,0,[],false⟩,
 ⟨143, .fn,8,0,[],false⟩,
 ⟨145, .fn,8,0,[],false⟩,
 ⟨146, .fn,8,0,[],false⟩,
 ⟨147, .fn,8,0,[],false⟩,
 ⟨148, .fn,8,0,[],false⟩,
 ⟨149,(.int .u64),8,0,[],false⟩,
 ⟨150, .fn,8,0,[],false⟩,
 ⟨151, .fn,8,0,[],false⟩,
 ⟨152, .fn,8,0,[],false⟩,
 ⟨153, .fn,8,0,[],false⟩,
 ⟨154, .fn,8,0,[],false⟩,
 ⟨155, .fn,8,0,[],false⟩,
 ⟨156, .fn,8,0,[],false⟩,
 ⟨157, .fn,8,0,[],false⟩,
 ⟨158, .fn,8,0,[],false⟩,
 ⟨159, .fn,8,0,[],false⟩,
 ⟨160, .fn,8,0,[],false⟩,
 ⟨161, .fn,8,0,[],false⟩,
 ⟨163, .fn,8,0,[],false⟩,
 ⟨164, .fn,8,0,[],false⟩,
 ⟨165, .fn,8,0,[],false⟩,
 ⟨167, .fn,8,0,[],false⟩,
 ⟨168,(.int .u32),4,0,[],false⟩,
 ⟨169,(.slice (.int .u8)),24,5,[],false⟩,
 ⟨170, .fn,8,0,[],false⟩,
 ⟨171,(.int .u64),8,0,[],false⟩,
 ⟨172, .fn,8,0,[],false⟩,
 ⟨173, .fn,8,0,[],false⟩,
 ⟨175, .fn,8,0,[],false⟩,
 ⟨176, .fn,8,0,[],false⟩,
 ⟨177,zI,8,0,[],false⟩,
 ⟨179, .fn,8,0,[],false⟩,
 ⟨180, .fn,8,0,[],false⟩,
 ⟨181, .fn,8,0,[],false⟩,
 ⟨182, .fn,8,0,[],false⟩,
 ⟨183,zI,8,0,[],false⟩,
 ⟨185, .fn,8,0,[],false⟩,
 ⟨186, .fn,8,0,[],false⟩,
 ⟨187, .fn,8,0,[],false⟩,
 ⟨188, .fn,8,0,[],false⟩,
 ⟨189, .fn,8,0,[],false⟩,
 ⟨190, .fn,8,0,[],false⟩,
 ⟨191, .fn,8,0,[],false⟩,
 ⟨193, .fn,8,0,[],false⟩,
 ⟨194, .fn,8,0,[],false⟩,
 ⟨195, .fn,8,0,[],false⟩,
 ⟨196, .fn,8,0,[],false⟩,
 ⟨197, .fn,8,0,[],false⟩,
 ⟨198, .fn,8,0,[],false⟩,
 ⟨199, .fn,8,0,[],false⟩,
 ⟨200, .fn,8,0,[],false⟩,
 ⟨201, .fn,8,0,[],false⟩,
 ⟨202, .fn,8,0,[],false⟩,
 ⟨204, .fn,8,0,[],false⟩,
 ⟨205, .fn,8,0,[],false⟩,
 ⟨206, .fn,8,0,[],false⟩,
 ⟨207, .fn,8,0,[],false⟩,
 ⟨208,(.st zT),16,0,[(0,1),(1,1)],true⟩,
 ⟨209,(.int .u64),8,0,[],false⟩,
 ⟨210, .fn,8,0,[],false⟩,
 ⟨211, .fn,8,0,[],false⟩,
 ⟨212, .fn,8,0,[],false⟩,
 ⟨214, .fn,8,0,[],false⟩,
 ⟨216, .fn,8,0,[],false⟩,
 ⟨217, .fn,8,0,[],false⟩,
 ⟨218, .fn,8,0,[],false⟩,
 ⟨219, .fn,8,0,[],false⟩,
 ⟨220, .fn,8,0,[],false⟩,
 ⟨221, .fn,8,0,[],false⟩,
 ⟨224, .fn,8,0,[],false⟩,
 ⟨225, .fn,8,0,[],false⟩,
 ⟨227, .fn,8,0,[],false⟩,
 ⟨228, .fn,8,0,[],false⟩,
 ⟨234,(.int .u8),1,0,[],false⟩,
 ⟨235,(.int .u8),1,0,[],false⟩,
 ⟨236, .fn,8,0,[],false⟩,
 ⟨238,(.int .i32),4,0,[],false⟩,
 ⟨239,(.int .i32),4,0,[],false⟩]
def ae:List HT:=[⟨42,(.st zC),0⟩,⟨42,(.st zR),0⟩,⟨44,(.st zT),0⟩,⟨58,(.st zT),0⟩,⟨3,zI,0⟩,⟨95,(.st (.pair zH (.pair (.ref 6) (.pair (.ref 4) (.pair (.ref 7) zT))))),1⟩,⟨26,(.o6 zI),0⟩,⟨4, .bool,0⟩,⟨101,(.st (.pair (.ref 4) (.pair .str .unit))),0⟩,⟨24,zH,0⟩]
def anG:List (Nat×Nat):=[(100045,45),(100145,45),(100046,46),(100146,46),(100018,18),(100084,84),(101038,38),(102038,38),(100040,40),(100070,70),(100071,70),(100109,109),(100110,109)]
def real (v:Nat):Nat:=bif Nat.blt v 100000 then v else (Go.Abs.look anG v).getD 0
def sigs:List (Nat×HY):=[
 (3,⟨[.v zH, .v zW],zB,none,[],none⟩),
 (4,⟨[.v zH, .v zW],zB,none,[],none⟩),
 (5,⟨[.v zH, .v zW],zB,none,[],none⟩),
 (6,⟨[.v zH, .v zW],zB,none,[],none⟩),
 (7,⟨[],zB,none,[],none⟩),
 (8,⟨[.v zW],zB,none,[],none⟩),
 (9,⟨[.v zW],zB,none,[],none⟩),
 (10,⟨[.v zW],zB,none,[],none⟩),
 (11,⟨[.v zW],zB,none,[],none⟩),
 (12,⟨[.v zH, .v zI],zB,none,[],none⟩),
 (13,⟨[],zB,none,[],none⟩),
 (14,⟨[.v zW, .v zI],[(zH,none)],none,[],none⟩),
 (15,⟨[.v zH],[((.st (.pair zI (.pair (.ref 0) .unit))),none)],none,[(0,true)],none⟩),
 (16,⟨[.v zH],[(zI,none)],none,[],none⟩),
 (17,⟨[.v zH],[(zH,none)],none,[],none⟩),
 (18,⟨[.v zH],[(zH,none),(zI,none)],none,[],none⟩),
 (19,⟨[.v zH, .v zH],zB,none,[],none⟩),
 (20,⟨[.v zH],[((.slice (.st zT)),none),((.st zT),none),(zI,none)],none,[],none⟩),
 (21,⟨[.v (.slice (.st zT)), .v (.st zT)],zB,none,[],none⟩),
 (22,⟨[.v zH],[((.slice (.st zT)),none),(zI,none),(zI,none)],none,[],none⟩),
 (23,⟨[.v (.slice (.st zT)), .v (.slice (.st zT))],zB,none,[],none⟩),
 (24,⟨[.v zH],[((.slice (.st zT)),none),((.st zT),none),(zI,none)],none,[],none⟩),
 (25,⟨[.v zH],[((.slice (.st zT)),none),(zI,none),(zI,none)],none,[],none⟩),
 (26,⟨[.v zH],[((.slice (.st zT)),none),((.st zT),none),(zI,none)],none,[],none⟩),
 (27,⟨[.v zH],[((.slice (.st zT)),none),(zI,none),(zI,none)],none,[],none⟩),
 (28,⟨[],[(zH,none)],none,[],none⟩),
 (29,⟨[.v zH],[((.slice (.st zT)),none)],none,[],none⟩),
 (30,⟨[.v (.slice (.st zT)), .v (.slice (.st zT))],zB,none,[],none⟩),
 (31,⟨[.v (.slice zI)],[((.slice (.st zT)),some 44)],none,[],none⟩),
 (32,⟨[.v (.slice (.slice zI)), .v (.slice zI), .v zI, .v zI, .v zI],[((.slice (.st (.pair (.slice zI) (.pair .str .unit)))),none)],none,[],none⟩),
 (33,⟨[.v (.slice (.st (.pair (.slice zI) (.pair .str .unit)))), .v zI],[(zH,none),(zI,none)],none,[],none⟩),
 (34,⟨[.v zI],[(zI,none)],none,[],none⟩),
 (35,⟨[.v zH, .v zI, .v zI, .v zI, .v zI],[(zH,none)],none,[],none⟩),
 (36,⟨[.v zI],zB,none,[],none⟩),
 (37,⟨[.v zH, .v zI],[(zI,none)],none,[],none⟩),
 (38,⟨[.v (.slice (.st zT)), .v zI],[((.slice zI),none)],none,[],none⟩),
 (39,⟨[.v .str],[(.str,none)],none,[],none⟩),
 (40,⟨[.v (.slice zI)],[((.slice (.st zT)),none)],none,[],none⟩),
 (41,⟨[.v zH],[(zI,none)],none,[],none⟩),
 (42,⟨[.v .str],[((.st (.pair (.st (.pair .bool (.pair (.slice (.int .u32)) .unit))) (.pair (.st (.pair .bool (.pair (.slice (.int .u32)) .unit))) .unit))),none),(.bool,none)],none,[],none⟩),
 (43,⟨[.v (.st (.pair (.st (.pair .bool (.pair (.slice (.int .u32)) .unit))) (.pair (.st (.pair .bool (.pair (.slice (.int .u32)) .unit))) .unit)))],[((.st (.pair (.st (.pair .bool (.pair (.slice (.int .u32)) .unit))) (.pair (.st (.pair .bool (.pair (.slice (.int .u32)) .unit))) .unit))),none)],none,[],none⟩),
 (44,⟨[.v (.st (.pair (.st (.pair .bool (.pair (.slice (.int .u32)) .unit))) (.pair (.st (.pair .bool (.pair (.slice (.int .u32)) .unit))) .unit)))],[(.str,none)],none,[],none⟩),
 (47,⟨[.v zH],[((.ptr 5),none)],none,[(5,true),(6,true),(4,true),(7,true)],none⟩),
 (48,⟨[.v (.ptr 5), .v zI],[],none,[(5,true),(6,true),(4,true),(7,true)],none⟩),
 (49,⟨[.v (.ptr 5)],[((.slice (.st zT)),none)],none,[(5,ff),(6,ff),(4,ff),(7,ff)],none⟩),
 (50,⟨[.v (.ref 3), .fn 51 []],[],none,[(3,true)],none⟩),
 (51,⟨[.v (.st zT), .v (.st zT)],[(zI,none)],none,[],none⟩),
 (52,⟨[.v zH, .v zI, .v zI],[(zI,none)],none,[],none⟩),
 (53,⟨[.v (.slice (.slice zI))],[((.slice (.slice zI)),none)],none,[],none⟩),
 (54,⟨[.v (.slice (.slice zI)), .v zI, .v zI, .v zI],[((.slice (.slice zI)),none)],none,[],none⟩),
 (55,⟨[.v zI],[(.str,none)],none,[],none⟩),
 (56,⟨[.v (.slice (.slice zI)), .v (.slice .str)],[((.slice (.st (.pair (.slice zI) (.pair .str .unit)))),none),(zI,none)],none,[],none⟩),
 (57,⟨[.v (.slice (.st (.pair (.slice zI) (.pair .str .unit))))],[(zI,none)],none,[],none⟩),
 (58,⟨[.v (.slice zI)],[((.slice (.slice zI)),none)],none,[],none⟩),
 (59,⟨[.v (.slice zI), .v (.slice zI)],[(zI,none)],none,[],none⟩),
 (60,⟨[.v zI, .v zI],[(zI,none)],none,[],none⟩),
 (61,⟨[.v .str],zB,none,[],none⟩),
 (62,⟨[.v zI, .v (.slice (.st zT))],[(zI,none)],none,[],none⟩),
 (63,⟨[.v zH, .v (.slice (.st zT))],[((.slice zI),none)],none,[],none⟩),
 (64,⟨[.v .str, .v .str],[(zI,none)],none,[],none⟩),
 (65,⟨[.v .str],[(.str,none),(.str,none),(.bool,none)],none,[],none⟩),
 (66,⟨[.v .str],[(.str,none)],none,[],none⟩),
 (67,⟨[.v zI],zB,none,[],none⟩),
 (68,⟨[.v .str],zB,none,[],none⟩),
 (69,⟨[.v zI, .v (.slice (.st zT))],[(zI,none)],none,[],none⟩),
 (71,⟨[.v (.st zT), .rp zI],zB,none,[],none⟩),
 (72,⟨[.v (.st zT), .rp zH, .rp (.st zC)],zB,none,[],none⟩),
 (73,⟨[.v zH, .v (.slice (.st zT))],[((.slice (.st zT)),none)],none,[],none⟩),
 (74,⟨[.v (.st (.pair (.st (.pair .bool (.pair (.slice (.int .u32)) .unit))) (.pair (.st (.pair .bool (.pair (.slice (.int .u32)) .unit))) .unit))), .v (.st (.pair (.st (.pair .bool (.pair (.slice (.int .u32)) .unit))) (.pair (.st (.pair .bool (.pair (.slice (.int .u32)) .unit))) .unit)))],[(zI,none)],none,[],none⟩),
 (75,⟨[.v .str, .v .str],[(.str,none),(.str,none),(.bool,none)],none,[],none⟩),
 (76,⟨[.v .str],[((.st (.pair .bool (.pair (.slice (.int .u32)) .unit))),none),(.bool,none)],none,[],none⟩),
 (77,⟨[.v zI],[((.st (.pair .bool (.pair (.slice (.int .u32)) .unit))),none)],none,[],none⟩),
 (78,⟨[.v (.st (.pair .bool (.pair (.slice (.int .u32)) .unit)))],[(zI,none)],none,[],none⟩),
 (79,⟨[.v (.st (.pair .bool (.pair (.slice (.int .u32)) .unit))), .v (.st (.pair .bool (.pair (.slice (.int .u32)) .unit)))],[(zI,none)],none,[],none⟩),
 (80,⟨[.v (.st (.pair .bool (.pair (.slice (.int .u32)) .unit))), .v (.st (.pair .bool (.pair (.slice (.int .u32)) .unit)))],[((.st (.pair .bool (.pair (.slice (.int .u32)) .unit))),none)],none,[],none⟩),
 (81,⟨[.v (.st (.pair .bool (.pair (.slice (.int .u32)) .unit)))],[((.st (.pair .bool (.pair (.slice (.int .u32)) .unit))),none)],none,[],none⟩),
 (82,⟨[.v (.st (.pair (.st (.pair .bool (.pair (.slice (.int .u32)) .unit))) (.pair (.st (.pair .bool (.pair (.slice (.int .u32)) .unit))) .unit)))],[((.st (.pair .bool (.pair (.slice (.int .u32)) .unit))),none)],none,[],none⟩),
 (83,⟨[.v (.st (.pair .bool (.pair (.slice (.int .u32)) .unit)))],[(.str,none)],none,[],none⟩),
 (84,⟨[.v (.slice (.st zT))],[((.slice (.st zT)),none)],none,[],none⟩),
 (85,⟨[.v (.slice (.st zT))],[(zI,none),(.bool,none)],none,[],none⟩),
 (86,⟨[.v zI, .v zI],[(zI,none),(zI,none)],none,[],none⟩),
 (87,⟨[.v zI, .v (.slice (.st zT)), .v zI, .v (.slice (.st zT))],[((.slice (.st zT)),none),(zI,none)],none,[],none⟩),
 (88,⟨[.v zI, .v zI],[(zI,none)],none,[],none⟩),
 (89,⟨[.v (.slice zI)],[(zI,none)],none,[],none⟩),
 (90,⟨[.v (.ref 3), .v zI, .v zI, .v zI, .fn 51 []],[],none,[(3,true)],none⟩),
 (91,⟨[.v (.int .u64)],[(zI,none)],none,[],none⟩),
 (92,⟨[.v zI, .v (.slice (.slice zI))],[(zI,none)],none,[],none⟩),
 (93,⟨[.v (.slice zI), .v zI, .v zI],[((.slice zI),none)],none,[],none⟩),
 (94,⟨[.v (.slice (.slice zI))],[((.slice (.slice zI)),none)],none,[],none⟩),
 (95,⟨[.v zI, .v zI],[(.str,none)],none,[],none⟩),
 (96,⟨[.v (.slice (.slice zI))],[(zI,none)],none,[],none⟩),
 (97,⟨[.v (.slice zI), .v (.slice zI)],zB,none,[],none⟩),
 (98,⟨[.v (.slice (.st (.pair (.slice zI) (.pair .str .unit))))],[((.slice (.st (.pair (.slice zI) (.pair .str .unit)))),none)],none,[],none⟩),
 (99,⟨[.v (.slice (.st (.pair (.slice zI) (.pair .str .unit)))), .v zI],[(zI,none)],none,[],none⟩),
 (100,⟨[.v (.slice (.st (.pair (.slice zI) (.pair .str .unit)))), .v zI, .v (.slice zI)],[(zI,none)],none,[],none⟩),
 (101,⟨[.v (.slice zI), .v zI],[((.slice zI),none)],none,[],none⟩),
 (102,⟨[.v .str],zB,none,[],none⟩),
 (103,⟨[.v .str],zB,none,[],none⟩),
 (104,⟨[.v .str, .v .str],[(zI,none)],none,[],none⟩),
 (105,⟨[.v .str, .v .str],[(.str,none)],none,[],none⟩),
 (106,⟨[.v .str],[(.bool,none),((.slice zI),none)],none,[],none⟩),
 (107,⟨[.v .bool, .v (.slice zI)],[(.str,none)],none,[],none⟩),
 (108,⟨[.v .str],[((.st (.pair (.st (.pair .bool (.pair (.slice (.int .u32)) .unit))) (.pair (.st (.pair .bool (.pair (.slice (.int .u32)) .unit))) .unit))),none),(.bool,none)],none,[],none⟩),
 (110,⟨[.v (.st (.pair .bool (.pair (.slice (.int .u32)) .unit))), .v (.st (.pair .bool (.pair (.slice (.int .u32)) .unit)))],[((.st (.pair .bool (.pair (.slice (.int .u32)) .unit))),none)],none,[],none⟩),
 (111,⟨[.v .str, .v .str],[(.str,none),(.str,none),(.bool,none)],none,[],none⟩),
 (112,⟨[.v .str, .v .str],[(.str,none),(.bool,none)],none,[],none⟩),
 (113,⟨[.v .bool, .v (.slice (.int .u32))],[((.st (.pair .bool (.pair (.slice (.int .u32)) .unit))),none)],none,[],none⟩),
 (114,⟨[.v (.slice (.int .u32)), .v (.slice (.int .u32))],[(zI,none)],none,[],none⟩),
 (115,⟨[.v zI, .v zI],[(zI,none)],none,[],none⟩),
 (116,⟨[.v (.slice (.int .u32))],[(zI,none)],none,[],none⟩),
 (117,⟨[.v (.slice (.int .u32)), .v (.slice (.int .u32))],[((.slice (.int .u32)),none),((.slice (.int .u32)),none)],none,[],none⟩),
 (118,⟨[.v (.slice (.int .u32))],[((.slice (.int .u32)),none)],none,[],none⟩),
 (119,⟨[.v zI],[(zI,none),(zI,none)],none,[],none⟩),
 (120,⟨[.v zI, .v zI],[(zI,none)],none,[],none⟩),
 (121,⟨[.v zI, .v zI],[(zI,none)],none,[],none⟩),
 (122,⟨[.v zI, .v (.slice (.slice (.st zT)))],[(zI,none)],none,[],none⟩),
 (123,⟨[.v zI, .v (.slice (.st zT)), .v zI, .v (.slice (.st zT))],[((.slice (.st zT)),none)],none,[],none⟩),
 (124,⟨[.v (.ref 3), .v zI, .v zI, .fn 51 []],[],none,[(3,true)],none⟩),
 (125,⟨[.v (.ref 3), .v zI, .v zI, .fn 51 []],[],none,[(3,true)],none⟩),
 (126,⟨[.v (.ref 3), .v zI, .v zI, .fn 51 []],[],none,[(3,true)],none⟩),
 (127,⟨[.v (.ref 3), .v zI, .v zI, .fn 51 []],[(zI,none),(zI,none)],none,[(3,true)],none⟩),
 (128,⟨[.v (.ref 3), .v zI, .v zI, .fn 51 []],[],none,[(3,true)],none⟩),
 (129,⟨[.v (.ref 3), .v zI, .v zI, .fn 51 []],zB,none,[(3,true)],none⟩),
 (130,⟨[.v (.ref 3), .v zI, .v zI, .v zI, .fn 51 []],[(zI,none)],none,[(3,true)],none⟩),
 (131,⟨[.v (.ref 3), .v zI, .v zI, .v zI, .fn 51 []],[(zI,none),(.bool,none)],none,[(3,true)],none⟩),
 (132,⟨[.v (.int .u32)],[(zI,none)],none,[],none⟩),
 (133,⟨[.v (.int .u64)],[(zI,none)],none,[],none⟩),
 (134,⟨[.v (.slice zI), .v zI],zB,none,[],none⟩),
 (135,⟨[.v (.slice zI)],[((.slice zI),none),(zI,none)],none,[],none⟩),
 (136,⟨[.v (.slice zI)],[((.slice (.slice zI)),none)],none,[],none⟩),
 (137,⟨[.v (.slice (.slice zI)), .v (.slice zI)],[((.slice (.slice zI)),none)],none,[],none⟩),
 (138,⟨[.v .str, .v .str],[(.str,none)],none,[],none⟩),
 (139,⟨[.v zI],[(.str,none)],none,[],none⟩),
 (140,⟨[.v (.slice zI)],[(zI,none)],none,[],none⟩),
 (141,⟨[.v (.slice (.slice zI)), .v (.slice zI)],[(zI,none)],none,[],none⟩),
 (142,⟨[.v (.slice (.st (.pair (.slice zI) (.pair .str .unit))))],[((.ref 8),none)],none,[(8,true),(4,true)],none⟩),
 (143,⟨[.v .str],zB,none,[],none⟩),
 (144,⟨[.v .str],zB,none,[],none⟩),
 (145,⟨[.v .str, .v .str],[(.str,none)],none,[],none⟩),
 (146,⟨[.v (.slice zI), .v (.slice zI)],[(zI,none)],none,[],none⟩),
 (147,⟨[.v .str],[(zI,none),(.bool,none)],none,[],none⟩),
 (148,⟨[.v (.slice zI)],[((.slice zI),none)],none,[],none⟩),
 (149,⟨[.v (.st (.pair (.st (.pair .bool (.pair (.slice (.int .u32)) .unit))) (.pair (.st (.pair .bool (.pair (.slice (.int .u32)) .unit))) .unit)))],zB,none,[],none⟩),
 (150,⟨[.v .str, .v .str],[(zI,none)],none,[],none⟩),
 (151,⟨[.v .str, .v .str],[(.str,none),(.bool,none)],none,[],none⟩),
 (152,⟨[.v (.slice (.int .u32)), .v (.int .u32)],[((.slice (.int .u32)),none),((.int .u32),none)],none,[],none⟩),
 (153,⟨[.v (.slice (.int .u32)), .v (.slice (.int .u32))],[((.slice (.int .u32)),none),((.slice (.int .u32)),none)],none,[],none⟩),
 (154,⟨[.v zI, .v zI, .v zI],[(zI,none)],none,[],none⟩),
 (155,⟨[.v (.slice (.st zT)), .v (.slice (.st zT))],[],some (171,[(.slice (.st zT)),(.slice (.st zT))]),[],none⟩),
 (156,⟨[.v (.ref 3), .v zI, .v zI, .v zI, .fn 51 []],[],none,[(3,true)],none⟩),
 (157,⟨[.v zI],[((.int .u64),none)],none,[],none⟩),
 (161,⟨[.v .str, .v .str],[(.str,none),(.str,none)],none,[],none⟩),
 (162,⟨[.v .str],[(zI,none)],none,[],none⟩),
 (163,⟨[.v .str],[(.str,none)],none,[],none⟩),
 (164,⟨[.v (.st (.pair .bool (.pair (.slice (.int .u32)) .unit)))],zB,none,[],none⟩),
 (165,⟨[.v .str, .v (.int .u8)],[(zI,none)],none,[],none⟩),
 (167,⟨[.v zI],[(zI,none)],none,[],none⟩),
 (168,⟨[.v .str, .v .str],[(zI,none)],none,[],none⟩),
 (169,⟨[.v .str, .v .str],zB,none,[],none⟩),
 (170,⟨[.v (.slice (.int .u32)), .v (.int .u32)],[((.slice (.int .u32)),some 168)],none,[],none⟩),
 (171,⟨[.K4, .bx (.slice (.st zT)), .bx (.slice (.st zT))],[],none,[],some [zI,(.st zT)]⟩),
 (173,⟨[.v (.slice zI), .v (.slice zI)],[((.slice zI),none)],none,[],none⟩),
 (174,⟨[.v .str, .v .str],[(.str,none)],none,[],none⟩),
 (175,⟨[.v .str, .v .str],[(.str,none)],none,[],none⟩),
 (176,⟨[.v (.st (.pair .bool (.pair (.slice (.int .u32)) .unit)))],[(zI,none)],none,[],none⟩),
 (178,⟨[.v .str],[((.int .u32),none),((.int .u32),none)],none,[],none⟩),
 (179,⟨[.v (.slice zI), .v (.slice zI)],[((.slice zI),none)],none,[],none⟩),
 (196,⟨[.v zH],[],some (197,[zH]),[],none⟩),
 (197,⟨[.K4, .bx zH],[],none,[],some [zI]⟩),
 (198,⟨[.v zH],[],some (199,[zH]),[],none⟩),
 (199,⟨[.K4, .bx zH],[],none,[],some [zI]⟩),
 (100045,⟨[.v zH, .c [⟨.fn,(197:Nat)⟩,⟨.bool,false⟩], .fn 46 []],[((.ref 3),none),((.st zT),none),(zI,none)],none,[(3,true)],none⟩),
 (100145,⟨[.v zH, .c [⟨.fn,(199:Nat)⟩,⟨.bool,true⟩], .fn 46 []],[((.ref 3),none),((.st zT),none),(zI,none)],none,[(3,true)],none⟩),
 (100046,⟨[.c [⟨.fn,(197:Nat)⟩,⟨.bool,false⟩], .v zH],[((.ref 3),none),((.st zT),none)],none,[(3,true)],none⟩),
 (100146,⟨[.c [⟨.fn,(199:Nat)⟩,⟨.bool,true⟩], .v zH],[((.ref 3),none),((.st zT),none)],none,[(3,true)],none⟩),
 (100018,⟨[.v zH],[((.st (.pair zI (.pair (.ref 1) .unit))),none),(zI,none)],none,[(1,true),(2,true)],none⟩),
 (100084,⟨[.v (.o6 (.st zT))],[((.slice (.st zT)),none)],none,[],none⟩),
 (101038,⟨[.v (.slice (.st zT)), .v zI],[((.slice zI),some 3)],none,[],none⟩),
 (102038,⟨[.v (.slice (.st zT)), .v zI],[((.ref 4),none)],none,[(4,true)],none⟩),
 (100040,⟨[.v (.ref 4)],[((.slice (.st zT)),none)],none,[(4,ff)],none⟩),
 (100070,⟨[.v (.slice (.st zT)), .fn 71 [zI]],zB,none,[],none⟩),
 (100071,⟨[.v (.slice (.st zT)), .fn 72 [zH,(.st zC)]],zB,none,[],none⟩),
 (100109,⟨[.v (.slice (.st zT)), .fn 71 [zI]],[(zI,none)],none,[],none⟩),
 (100110,⟨[.v (.slice (.st zT)), .fn 72 [zH,(.st zC)]],[(zI,none)],none,[],none⟩)]
def sig (v:Nat):HY:=(Go.Abs.look sigs v).getD ⟨[],[],none,[],none⟩
def anH:List (Nat×List Nat):=[(45,[100045,100145]),(46,[100046,100146]),(70,[100070,100071]),(109,[100109,100110])]
def aiE (f:Nat):List Nat:=(Go.Abs.look anH f).getD [f]
def hints:List (Nat×List (List (Nat×Bool))):=[
 (3,[[(21,ff),(22,ff),(23,ff)],[(6,ff),(7,ff),(8,ff),(9,ff),(10,ff),(21,ff),(22,ff),(23,ff)],[(6,ff),(7,ff),(8,ff),(9,ff),(10,ff),(11,ff),(21,ff),(22,ff),(23,ff),(61,ff),(62,ff)],[(6,ff),(7,ff),(8,ff),(9,ff),(10,ff),(11,ff),(13,ff),(21,ff),(22,ff),(23,ff),(61,ff),(62,ff),(71,ff),(72,ff)]]),
 (4,[[(20,ff),(21,ff),(22,ff)]]),
 (5,[[(20,ff),(21,ff),(22,ff)]]),
 (6,[[(20,ff),(21,ff),(22,ff)]]),
 (9,[[(4,ff),(10,ff),(60,ff),(61,ff),(62,ff)],[(4,ff),(10,ff),(15,ff),(16,ff),(60,ff),(61,ff),(62,ff),(86,ff),(87,ff),(88,ff)]]),
 (10,[[(5,ff),(6,ff),(8,ff),(9,ff),(11,ff),(12,ff),(13,ff),(38,ff),(39,ff),(40,ff)]]),
 (12,[[(13,ff),(14,ff),(15,ff)]]),
 (14,[[(2,ff),(4,ff),(7,ff),(9,ff)],[(2,ff),(4,ff),(7,ff),(9,ff),(10,ff),(11,ff),(12,ff)]]),
 (15,[[(1,ff),(2,ff),(3,ff),(4,ff)]]),
 (16,[[(1,ff),(3,ff)]]),
 (17,[[(1,ff),(2,ff),(3,ff),(4,ff),(5,ff)],[(1,ff),(2,ff),(3,ff),(4,ff),(5,ff),(6,ff),(7,ff),(8,ff)]]),
 (18,[[(1,ff),(2,ff),(5,ff),(6,ff),(34,ff),(35,ff)],[(1,ff),(2,ff),(5,ff),(6,ff),(11,ff)],[(1,ff),(2,ff),(5,ff),(6,ff),(11,ff),(78,ff),(79,ff),(80,ff)]]),
 (19,[[(2,ff),(3,ff),(5,ff)]]),
 (22,[[(1,ff),(5,ff),(6,ff)]]),
 (23,[[(0,ff),(1,ff),(5,ff)]]),
 (25,[[(1,ff),(5,ff),(6,ff)],[(1,ff),(5,ff),(6,ff),(7,ff)]]),
 (26,[[(3,ff),(7,ff),(8,ff),(9,ff),(31,ff),(32,ff),(33,ff)]]),
 (27,[[(5,ff),(6,ff),(7,ff),(8,ff),(9,ff),(10,ff)],[(5,ff),(6,ff),(7,ff),(8,ff),(9,ff),(11,ff)],[(5,ff),(7,ff),(8,ff),(9,ff),(12,ff),(13,ff)]]),
 (29,[[(1,ff),(3,ff),(4,ff),(5,ff)],[(1,ff),(3,ff),(4,ff),(5,ff),(6,ff)],[(3,ff),(4,ff),(7,ff),(8,ff),(9,ff)],[(3,ff),(4,ff),(7,ff),(8,ff),(9,ff),(10,ff)],[(3,ff),(7,ff),(8,ff),(11,ff),(12,ff)]]),
 (30,[[(0,ff),(1,ff),(5,ff)]]),
 (31,[[(0,ff),(3,ff),(4,ff)]]),
 (32,[[(1,ff),(11,ff),(12,ff),(13,ff)]]),
 (33,[[(0,ff),(1,ff),(4,ff),(7,ff),(8,ff)],[(0,ff),(1,ff),(4,ff),(7,ff),(8,ff),(9,ff),(10,ff),(11,ff)],[(0,ff),(1,ff),(4,ff),(7,ff),(8,ff),(9,ff),(10,ff),(11,ff),(12,ff)]]),
 (35,[[(1,ff),(2,ff),(3,ff),(4,ff),(5,ff),(10,ff),(11,ff),(12,ff),(13,ff),(14,ff),(15,ff),(16,ff)],[(1,ff),(2,ff),(4,ff),(5,ff),(10,ff),(11,ff),(12,ff),(17,ff)]]),
 (36,[[(0,ff),(3,ff)]]),
 (37,[[(1,ff),(2,ff),(5,ff),(7,ff)],[(1,ff),(2,ff),(5,ff),(8,ff)]]),
 (38,[[(0,ff),(5,ff),(6,ff)]]),
 (40,[[(0,ff),(3,ff),(4,ff)]]),
 (41,[[(1,ff),(3,ff),(18,ff),(19,ff),(20,ff)]]),
 (48,[[(0,ff),(1,ff),(4,ff),(5,ff)],[(0,ff),(1,ff),(4,ff),(5,ff),(6,ff),(7,ff),(8,ff)]]),
 (49,[[(0,ff),(3,ff),(4,ff)]]),
 (52,[[(1,ff),(2,ff),(3,ff),(7,ff),(8,ff)]]),
 (53,[[(0,ff),(3,ff),(4,ff)]]),
 (54,[[(0,ff),(1,ff),(2,ff),(3,ff),(9,ff),(10,ff)],[(11,ff),(37,ff),(38,ff),(39,ff)]]),
 (56,[[(0,ff),(1,ff),(7,ff)],[(0,ff),(1,ff),(8,ff),(9,ff)],[(0,ff),(1,ff),(8,ff),(9,ff),(10,ff),(11,ff)]]),
 (57,[[(0,ff),(3,ff)],[(0,ff),(3,ff),(5,ff),(6,ff)]]),
 (58,[[(0,ff),(3,ff),(4,ff)]]),
 (59,[[(0,ff),(1,ff),(5,ff)]]),
 (60,[[(0,ff),(1,ff),(5,ff)]]),
 (62,[[(0,ff),(1,ff),(5,ff)]]),
 (63,[[(1,ff),(2,ff),(5,ff),(6,ff)],[(1,ff),(2,ff),(5,ff),(6,ff),(7,ff),(8,ff)]]),
 (65,[[(0,ff),(5,ff)]]),
 (67,[[(0,ff),(4,ff)]]),
 (69,[[(0,ff),(1,ff),(10,ff),(11,ff),(12,ff)]]),
 (73,[[(2,ff),(4,ff),(7,ff),(8,ff),(9,ff)]]),
 (76,[[(2,ff),(4,ff),(5,ff),(6,ff),(7,ff)],[(2,ff),(4,ff),(5,ff),(6,ff),(7,ff),(8,ff),(44,ff),(45,ff),(46,ff)]]),
 (77,[[(2,ff),(3,ff),(4,ff),(5,ff)]]),
 (80,[[(4,ff),(5,ff),(6,ff)]]),
 (83,[[(1,ff),(3,ff),(19,ff),(20,ff),(21,ff)],[(1,ff),(3,ff),(5,ff),(19,ff),(20,ff),(21,ff),(25,ff)],[(1,ff),(3,ff)],[(3,ff),(6,ff),(7,ff)]]),
 (89,[[(0,ff),(3,ff)]]),
 (90,[[(0,ff),(1,ff),(2,ff),(3,ff),(4,ff),(10,ff),(11,ff)]]),
 (92,[[(0,ff),(1,ff),(5,ff),(6,ff)],[(0,ff),(5,ff),(7,ff),(8,ff)],[(0,ff),(5,ff),(7,ff),(8,ff),(9,ff)],[(0,ff),(5,ff),(7,ff),(8,ff),(10,ff),(11,ff)],[(0,ff),(5,ff),(7,ff),(8,ff),(10,ff),(11,ff),(12,ff),(13,ff)]]),
 (93,[[(0,ff),(1,ff),(2,ff),(7,ff),(8,ff)]]),
 (94,[[(0,ff),(3,ff),(4,ff)],[(0,ff),(3,ff),(4,ff),(5,ff),(6,ff)]]),
 (96,[[(0,ff),(3,ff)],[(0,ff),(3,ff),(5,ff),(6,ff)]]),
 (97,[[(0,ff),(1,ff),(5,ff)]]),
 (98,[[(3,ff),(4,ff)],[(3,ff),(4,ff),(5,ff)]]),
 (100,[[(0,ff),(1,ff),(2,ff),(7,ff)]]),
 (101,[[(0,ff),(1,ff),(5,ff),(6,ff)]]),
 (105,[[(9,ff),(10,ff),(11,ff),(12,ff),(13,ff),(14,ff)],[(9,ff),(10,ff),(11,ff),(12,ff),(13,ff),(14,ff),(15,ff)],[(9,ff),(11,ff),(13,ff),(16,ff)]]),
 (106,[[(0,ff),(4,ff),(5,ff),(6,ff)]]),
 (107,[[(1,ff),(5,ff),(6,ff)]]),
 (110,[[(2,ff),(3,ff),(4,ff),(5,ff),(20,ff),(21,ff),(22,ff)],[(2,ff),(3,ff),(4,ff),(5,ff),(6,ff),(7,ff),(8,ff),(20,ff),(21,ff),(22,ff),(28,ff),(29,ff),(30,ff)]]),
 (114,[[(0,ff),(1,ff),(5,ff)]]),
 (115,[[(0,ff),(1,ff)]]),
 (116,[[(0,ff),(3,ff),(4,ff)]]),
 (118,[[(0,ff)]]),
 (122,[[(0,ff),(8,ff),(9,ff),(10,ff)]]),
 (123,[[(4,ff),(6,ff),(9,ff)]]),
 (124,[[(0,ff),(1,ff),(2,ff),(3,ff),(8,ff)],[(0,ff),(1,ff),(2,ff),(3,ff),(8,ff),(9,ff)]]),
 (125,[[(0,ff),(3,ff),(8,ff),(9,ff),(10,ff),(11,ff)],[(0,ff),(3,ff),(8,ff),(9,ff),(12,ff)]]),
 (126,[[(0,ff),(1,ff),(8,ff),(9,ff),(10,ff),(11,ff)]]),
 (128,[[(0,ff),(8,ff),(9,ff)]]),
 (129,[[(0,ff),(1,ff),(2,ff),(3,ff),(9,ff),(10,ff)],[(0,ff),(1,ff),(2,ff),(3,ff),(9,ff),(10,ff)],[(0,ff),(1,ff),(2,ff),(3,ff),(9,ff),(10,ff),(11,ff)],[(0,ff),(1,ff),(2,ff),(3,ff),(9,ff),(10,ff),(12,ff)]]),
 (130,[[(0,ff),(1,ff),(4,ff),(11,ff),(12,ff)],[(0,ff),(1,ff),(4,ff),(11,ff),(12,ff)],[(0,ff),(1,ff),(4,ff),(11,ff),(12,ff)]]),
 (131,[[(0,ff),(1,ff),(4,ff),(12,ff),(13,ff)],[(0,ff),(1,ff),(4,ff),(12,ff),(13,ff)],[(0,ff),(1,ff),(4,ff),(12,ff),(13,ff)],[(0,ff),(1,ff),(4,ff),(12,ff),(13,ff)],[(0,ff),(1,ff),(4,ff),(12,ff),(13,ff)]]),
 (134,[[(0,ff),(1,ff),(5,ff)]]),
 (135,[[(4,ff),(5,ff),(6,ff)],[(4,ff),(5,ff),(6,ff),(7,ff)]]),
 (136,[[(0,ff),(3,ff),(4,ff)],[(0,ff),(3,ff),(4,ff),(5,ff),(6,ff)]]),
 (137,[[(0,ff),(1,ff),(5,ff),(6,ff),(7,ff)]]),
 (139,[[(3,ff),(5,ff)],[(0,ff),(6,ff)]]),
 (140,[[(0,ff),(3,ff)],[(0,ff),(4,ff)]]),
 (141,[[(0,ff),(1,ff),(5,ff)]]),
 (142,[[(0,ff),(3,ff),(4,ff)]]),
 (144,[[(3,ff),(4,ff)]]),
 (145,[[(5,ff),(6,ff)]]),
 (146,[[(0,ff),(1,ff),(5,ff)]]),
 (147,[[(0,ff),(4,ff),(5,ff)]]),
 (148,[[(0,ff)]]),
 (150,[[(0,ff),(1,ff),(5,ff),(6,ff),(7,ff),(8,ff),(9,ff),(10,ff)]]),
 (152,[[(0,ff),(1,ff),(6,ff),(7,ff),(8,ff)]]),
 (153,[[(4,ff),(6,ff),(7,ff),(8,ff),(9,ff),(10,ff)],[(4,ff),(6,ff),(7,ff),(8,ff),(9,ff),(10,ff),(12,ff),(13,ff)],[(4,ff),(6,ff),(7,ff),(8,ff),(9,ff),(10,ff),(12,ff),(14,ff),(123,ff),(124,ff)],[(4,ff),(6,ff),(7,ff),(8,ff),(9,ff),(10,ff),(12,ff),(17,ff),(18,ff),(188,ff),(189,ff)]]),
 (154,[[(0,ff),(2,ff),(7,ff),(8,ff)]]),
 (156,[[(0,ff),(2,ff),(3,ff),(4,ff),(10,ff)]]),
 (161,[[(1,ff),(12,ff),(13,ff),(14,ff),(15,ff),(17,ff),(18,ff),(19,ff)],[(1,ff),(12,ff),(13,ff),(14,ff),(15,ff),(17,ff),(18,ff),(19,ff),(20,ff)],[(1,ff),(12,ff),(14,ff),(17,ff),(18,ff),(21,ff)]]),
 (168,[[(0,ff),(1,ff),(5,ff),(6,ff),(7,ff),(8,ff),(9,ff)],[(0,ff),(1,ff),(5,ff),(6,ff),(7,ff),(8,ff),(10,ff)]]),
 (170,[[(1,ff),(5,ff),(6,ff),(13,ff),(14,ff),(15,ff)]]),
 (171,[[(0,ff),(1,ff),(2,ff)]]),
 (173,[[(0,ff),(1,ff),(5,ff),(6,ff),(7,ff)]]),
 (176,[[(3,ff),(4,ff)]]),
 (178,[[(0,ff),(4,ff),(5,ff)],[(4,ff),(6,ff),(7,ff),(8,ff)]]),
 (179,[[(0,ff),(1,ff),(5,ff),(6,ff),(7,ff)]]),
 (197,[[(0,ff),(6,ff),(7,ff)]]),
 (199,[[(0,ff),(1,ff),(3,ff)],[(0,ff),(1,ff),(3,ff),(11,ff),(12,ff),(13,ff)]]),
 (100046,[[(2,ff),(3,ff),(4,ff),(5,ff),(7,ff),(8,ff),(27,ff),(28,ff)],[(2,ff),(3,ff),(4,ff),(5,ff),(7,ff),(8,ff)],[(3,ff),(5,ff),(7,ff),(8,ff),(10,ff),(11,ff),(12,ff),(13,ff)],[(4,ff),(5,ff),(137,ff),(138,ff),(139,ff)]]),
 (100146,[[(2,ff),(3,ff),(4,ff),(5,ff),(7,ff),(8,ff),(27,ff),(28,ff)],[(2,ff),(3,ff),(4,ff),(5,ff),(7,ff),(8,ff)],[(3,ff),(5,ff),(7,ff),(8,ff),(10,ff),(11,ff),(12,ff),(13,ff)],[(4,ff),(5,ff),(137,ff),(138,ff),(139,ff)]]),
 (100018,[[(1,ff),(2,ff),(5,ff),(6,ff),(34,ff),(35,ff)],[(1,ff),(2,ff),(5,ff),(6,ff),(11,ff)],[(1,ff),(2,ff),(5,ff),(6,ff),(11,ff),(78,ff),(79,ff),(80,ff)]]),
 (101038,[[(0,ff),(5,ff),(6,ff)]]),
 (102038,[[(0,ff),(5,ff),(6,ff)]]),
 (100040,[[(0,ff),(3,ff),(4,ff)]]),
 (100109,[[(0,ff),(1,ff),(7,ff),(8,ff)]]),
 (100110,[[(0,ff),(1,ff),(7,ff),(8,ff)]])]
def hint (v:Nat):List (List (Nat×Bool)):=(Go.Abs.look hints v).getD []
def alD:List (Nat×List (Nat×Site)):=[(3,[(21, .heap 9),(41, .vid 100018)]),(4,[(20, .heap 9)]),(5,[(20, .heap 9)]),(6,[(20, .heap 9)]),(17,[(29, .heap 4),(64, .vid 100040)]),(18,[(30, .heap 1)]),(33,[(32, .heap 4),(87, .vid 100040)]),(35,[(28, .heap 4),(78, .vid 100040),(99, .vid 102038),(145, .vid 100040)]),(47,[(9, .heap 6),(11, .heap 4),(13, .heap 7)]),(48,[(29, .vid 101038)]),(142,[(2, .heap 8),(3, .heap 8),(12, .heap 4),(25, .heap 8)]),(100045,[(6, .heap 3)]),(100145,[(6, .heap 3)]),(100046,[(4, .heap 3),(23, .o6)]),(100146,[(4, .heap 3),(23, .o6)]),(100018,[(30, .heap 1)]),(102038,[(4, .heap 4),(8, .heap 4)])]
def sites (v:Nat):List (Nat×Site):=(Go.Abs.look alD v).getD []
def T:cm:=⟨tys,ae,real,sig,aiE,hint,sites,[(1000000000, .oR [⟨.fn,(197:Nat)⟩,⟨.bool,false⟩]),(1000000001, .oR [⟨.fn,(199:Nat)⟩,⟨.bool,true⟩])],[48,58,44]⟩
noncomputable def fns:List (Nat×Func):=[
 (3,Tryz.f3),(4,Tryz.f4),(5,Tryz.f5),(6,Tryz.f6),(7,Tryz.f7),(8,Tryz.f8),(9,Tryz.f9),(10,Tryz.f10),(11,Tryz.f11),(12,Tryz.f12),(13,Tryz.f13),(14,Tryz.f14),(15,Tryz.f15),(16,Tryz.f16),(17,Tryz.f17),(18,Tryz.f18),(19,Tryz.f19),(20,Tryz.f20),(21,Tryz.f21),(22,Tryz.f22),(23,Tryz.f23),(24,Tryz.f24),(25,Tryz.f25),(26,Tryz.f26),(27,Tryz.f27),(28,Tryz.f28),(29,Tryz.f29),(30,Tryz.f30),(31,Tryz.f31),(32,Tryz.f32),(33,Tryz.f33),(34,Tryz.f34),(35,Tryz.f35),(36,Tryz.f36),(37,Tryz.f37),(38,Tryz.f38),(39,Tryz.f39),(40,Tryz.f40),(41,Tryz.f41),(42,Tryz.f42),(43,Tryz.f43),(44,Tryz.f44),(47,Tryz.f47),(48,Tryz.f48),(49,Tryz.f49),(50,Tryz.f50),(51,Tryz.f51),(52,Tryz.f52),(53,Tryz.f53),(54,Tryz.f54),(55,Tryz.f55),(56,Tryz.f56),(57,Tryz.f57),(58,Tryz.f58),(59,Tryz.f59),(60,Tryz.f60),(61,Tryz.f61),(62,Tryz.f62),(63,Tryz.f63),(64,Tryz.f64),(65,Tryz.f65),(66,Tryz.f66),(67,Tryz.f67),(68,Tryz.f68),(69,Tryz.f69),(71,Tryz.f71),(72,Tryz.f72),(73,Tryz.f73),(74,Tryz.f74),(75,Tryz.f75),(76,Tryz.f76),(77,Tryz.f77),(78,Tryz.f78),(79,Tryz.f79),(80,Tryz.f80),(81,Tryz.f81),(82,Tryz.f82),(83,Tryz.f83),(84,Tryz.f84),(85,Tryz.f85),(86,Tryz.f86),(87,Tryz.f87),(88,Tryz.f88),(89,Tryz.f89),(90,Tryz.f90),(91,Tryz.f91),(92,Tryz.f92),(93,Tryz.f93),(94,Tryz.f94),(95,Tryz.f95),(96,Tryz.f96),(97,Tryz.f97),(98,Tryz.f98),(99,Tryz.f99),(100,Tryz.f100),(101,Tryz.f101),(102,Tryz.f102),(103,Tryz.f103),(104,Tryz.f104),(105,Tryz.f105),(106,Tryz.f106),(107,Tryz.f107),(108,Tryz.f108),(110,Tryz.f110),(111,Tryz.f111),(112,Tryz.f112),(113,Tryz.f113),(114,Tryz.f114),(115,Tryz.f115),(116,Tryz.f116),(117,Tryz.f117),(118,Tryz.f118),(119,Tryz.f119),(120,Tryz.f120),(121,Tryz.f121),(122,Tryz.f122),(123,Tryz.f123),(124,Tryz.f124),(125,Tryz.f125),(126,Tryz.f126),(127,Tryz.f127),(128,Tryz.f128),(129,Tryz.f129),(130,Tryz.f130),(131,Tryz.f131),(132,Tryz.f132),(133,Tryz.f133),(134,Tryz.f134),(135,Tryz.f135),(136,Tryz.f136),(137,Tryz.f137),(138,Tryz.f138),(139,Tryz.f139),(140,Tryz.f140),(141,Tryz.f141),(142,Tryz.f142),(143,Tryz.f143),(144,Tryz.f144),(145,Tryz.f145),(146,Tryz.f146),(147,Tryz.f147),(148,Tryz.f148),(149,Tryz.f149),(150,Tryz.f150),(151,Tryz.f151),(152,Tryz.f152),(153,Tryz.f153),(154,Tryz.f154),(155,Tryz.f155),(156,Tryz.f156),(157,Tryz.f157),(161,Tryz.f161),(162,Tryz.f162),(163,Tryz.f163),(164,Tryz.f164),(165,Tryz.f165),(167,Tryz.f167),(168,Tryz.f168),(169,Tryz.f169),(170,Tryz.f170),(171,Tryz.f171),(173,Tryz.f173),(174,Tryz.f174),(175,Tryz.f175),(176,Tryz.f176),(178,Tryz.f178),(179,Tryz.f179),(196,Tryz.f196),(197,Tryz.f197),(198,Tryz.f198),(199,Tryz.f199),(100045,Tryz.f45),(100145,Tryz.f45),(100046,Tryz.f46),(100146,Tryz.f46),(100018,Tryz.f18),(100084,Tryz.f84),(101038,Tryz.f38),(102038,Tryz.f38),(100040,Tryz.f40),(100070,Tryz.f70),(100071,Tryz.f70),(100109,Tryz.f109),(100110,Tryz.f109)]
def Zb (x:Int×Int×Unit):List (Int×Int×Unit)→List (Int×Int×Unit)
 | []=>[x]
 |y::r=>bif decide (x.1<y.1) then x::y::r else y::Zb x r
def Ab:List (Int×Int×Unit)→List (Int×Int×Unit)
 | []=>[]
 |x::r=>Zb x (Ab r)
def okT:List (Int×Int×Unit)→Bool
 | []=>true
 |x::r=>decide (0≤x.1)&&decide (x.1<1000000000)&&(r.all fun y=> !decide (x.1=y.1))&&okT r
def agZ (n:Nat)(hp:List (Option (List (Int×Int×Unit)))):Option (Unit×List (Option (List (Int×Int×Unit)))):=match n with
 |0=>some ((),hp)
 |n+1=>(ag hp (n+1)).bind fun l=>bif Nat.ble l.length 1000000&&okT l then some ((),jg hp (n+1) (Ab l)) else none
def Uj (c:Int)(i:Nat):List UInt8→Int
 | []=> -1
 |x::r=>bif ((x.toNat:Int)==c) then (i:Int) else Uj c (i+1) r
def B:LS T:=fun v=>match v with
 |50=>some fun(x:(Nat×Unit)×List (Option (List (Int×Int×Unit))))=>agZ x.1.1 x.2
 |84=>some fun(x:List (Int×Int×Unit))=>bif aE 16 2 0 x.length then some x else none
 |165=>some fun(x:ByteArray×Int)=>bif decide (0≤x.2)&&decide (x.2<256) then some (Uj x.2 0 x.1.data.toList) else none
 |_=>none
theorem alF:iu Tryz.prog T.rows:=alw (by kernel_rfl)
theorem mixed:Tryz.prog.follows .mixedOrders=true:=by kernel_rfl
theorem aem:Db Tryz.prog T:=agR (by kernel_rfl)
theorem ajk:afR Tryz.prog T:=aly (by kernel_rfl)
theorem ag0:Sb T:=ajh (l:=sigs) (by kernel_rfl) fun _=>rfl
theorem acD:L6 Tryz.prog T:=⟨mixed,alF,aem,ajk,ag0⟩
theorem alG:acx Tryz.prog T (Go.Abs.look fns):=SV (
 ⟨⟨Tryz.func3,by kernel_rfl⟩,⟨⟨Tryz.func4,by kernel_rfl⟩,⟨⟨Tryz.func5,by kernel_rfl⟩,⟨⟨Tryz.func6,by kernel_rfl⟩,⟨⟨Tryz.func7,by kernel_rfl⟩,⟨⟨Tryz.func8,by kernel_rfl⟩,⟨⟨Tryz.func9,by kernel_rfl⟩,⟨⟨Tryz.func10,by kernel_rfl⟩,⟨⟨Tryz.func11,by kernel_rfl⟩,⟨⟨Tryz.func12,by kernel_rfl⟩,⟨⟨Tryz.func13,by kernel_rfl⟩,⟨⟨Tryz.func14,by kernel_rfl⟩,⟨⟨Tryz.func15,by kernel_rfl⟩,⟨⟨Tryz.func16,by kernel_rfl⟩,⟨⟨Tryz.func17,by kernel_rfl⟩,⟨⟨Tryz.func18,by kernel_rfl⟩,⟨⟨Tryz.func19,by kernel_rfl⟩,⟨⟨Tryz.func20,by kernel_rfl⟩,⟨⟨Tryz.func21,by kernel_rfl⟩,⟨⟨Tryz.func22,by kernel_rfl⟩,⟨⟨Tryz.func23,by kernel_rfl⟩,⟨⟨Tryz.func24,by kernel_rfl⟩,⟨⟨Tryz.func25,by kernel_rfl⟩,⟨⟨Tryz.func26,by kernel_rfl⟩,⟨⟨Tryz.func27,by kernel_rfl⟩,⟨⟨Tryz.func28,by kernel_rfl⟩,⟨⟨Tryz.func29,by kernel_rfl⟩,⟨⟨Tryz.func30,by kernel_rfl⟩,⟨⟨Tryz.func31,by kernel_rfl⟩,⟨⟨Tryz.func32,by kernel_rfl⟩,⟨⟨Tryz.func33,by kernel_rfl⟩,⟨⟨Tryz.func34,by kernel_rfl⟩,⟨⟨Tryz.func35,by kernel_rfl⟩,⟨⟨Tryz.func36,by kernel_rfl⟩,⟨⟨Tryz.func37,by kernel_rfl⟩,⟨⟨Tryz.func38,by kernel_rfl⟩,⟨⟨Tryz.func39,by kernel_rfl⟩,⟨⟨Tryz.func40,by kernel_rfl⟩,⟨⟨Tryz.func41,by kernel_rfl⟩,⟨⟨Tryz.func42,by kernel_rfl⟩,⟨⟨Tryz.func43,by kernel_rfl⟩,⟨⟨Tryz.func44,by kernel_rfl⟩,⟨⟨Tryz.func47,by kernel_rfl⟩,⟨⟨Tryz.func48,by kernel_rfl⟩,⟨⟨Tryz.func49,by kernel_rfl⟩,⟨⟨Tryz.func50,by kernel_rfl⟩,⟨⟨Tryz.func51,by kernel_rfl⟩,⟨⟨Tryz.func52,by kernel_rfl⟩,⟨⟨Tryz.func53,by kernel_rfl⟩,⟨⟨Tryz.func54,by kernel_rfl⟩,⟨⟨Tryz.func55,by kernel_rfl⟩,⟨⟨Tryz.func56,by kernel_rfl⟩,⟨⟨Tryz.func57,by kernel_rfl⟩,⟨⟨Tryz.func58,by kernel_rfl⟩,⟨⟨Tryz.func59,by kernel_rfl⟩,⟨⟨Tryz.func60,by kernel_rfl⟩,⟨⟨Tryz.func61,by kernel_rfl⟩,⟨⟨Tryz.func62,by kernel_rfl⟩,⟨⟨Tryz.func63,by kernel_rfl⟩,⟨⟨Tryz.func64,by kernel_rfl⟩,⟨⟨Tryz.func65,by kernel_rfl⟩,⟨⟨Tryz.func66,by kernel_rfl⟩,⟨⟨Tryz.func67,by kernel_rfl⟩,⟨⟨Tryz.func68,by kernel_rfl⟩,⟨⟨Tryz.func69,by kernel_rfl⟩,⟨⟨Tryz.func71,by kernel_rfl⟩,⟨⟨Tryz.func72,by kernel_rfl⟩,⟨⟨Tryz.func73,by kernel_rfl⟩,⟨⟨Tryz.func74,by kernel_rfl⟩,⟨⟨Tryz.func75,by kernel_rfl⟩,⟨⟨Tryz.func76,by kernel_rfl⟩,⟨⟨Tryz.func77,by kernel_rfl⟩,⟨⟨Tryz.func78,by kernel_rfl⟩,⟨⟨Tryz.func79,by kernel_rfl⟩,⟨⟨Tryz.func80,by kernel_rfl⟩,⟨⟨Tryz.func81,by kernel_rfl⟩,⟨⟨Tryz.func82,by kernel_rfl⟩,⟨⟨Tryz.func83,by kernel_rfl⟩,⟨⟨Tryz.func84,by kernel_rfl⟩,⟨⟨Tryz.func85,by kernel_rfl⟩,⟨⟨Tryz.func86,by kernel_rfl⟩,⟨⟨Tryz.func87,by kernel_rfl⟩,⟨⟨Tryz.func88,by kernel_rfl⟩,⟨⟨Tryz.func89,by kernel_rfl⟩,⟨⟨Tryz.func90,by kernel_rfl⟩,⟨⟨Tryz.func91,by kernel_rfl⟩,⟨⟨Tryz.func92,by kernel_rfl⟩,⟨⟨Tryz.func93,by kernel_rfl⟩,⟨⟨Tryz.func94,by kernel_rfl⟩,⟨⟨Tryz.func95,by kernel_rfl⟩,⟨⟨Tryz.func96,by kernel_rfl⟩,⟨⟨Tryz.func97,by kernel_rfl⟩,⟨⟨Tryz.func98,by kernel_rfl⟩,⟨⟨Tryz.func99,by kernel_rfl⟩,⟨⟨Tryz.func100,by kernel_rfl⟩,⟨⟨Tryz.func101,by kernel_rfl⟩,⟨⟨Tryz.func102,by kernel_rfl⟩,⟨⟨Tryz.func103,by kernel_rfl⟩,⟨⟨Tryz.func104,by kernel_rfl⟩,⟨⟨Tryz.func105,by kernel_rfl⟩,⟨⟨Tryz.func106,by kernel_rfl⟩,⟨⟨Tryz.func107,by kernel_rfl⟩,⟨⟨Tryz.func108,by kernel_rfl⟩,⟨⟨Tryz.func110,by kernel_rfl⟩,⟨⟨Tryz.func111,by kernel_rfl⟩,⟨⟨Tryz.func112,by kernel_rfl⟩,⟨⟨Tryz.func113,by kernel_rfl⟩,⟨⟨Tryz.func114,by kernel_rfl⟩,⟨⟨Tryz.func115,by kernel_rfl⟩,⟨⟨Tryz.func116,by kernel_rfl⟩,⟨⟨Tryz.func117,by kernel_rfl⟩,⟨⟨Tryz.func118,by kernel_rfl⟩,⟨⟨Tryz.func119,by kernel_rfl⟩,⟨⟨Tryz.func120,by kernel_rfl⟩,⟨⟨Tryz.func121,by kernel_rfl⟩,⟨⟨Tryz.func122,by kernel_rfl⟩,⟨⟨Tryz.func123,by kernel_rfl⟩,⟨⟨Tryz.func124,by kernel_rfl⟩,⟨⟨Tryz.func125,by kernel_rfl⟩,⟨⟨Tryz.func126,by kernel_rfl⟩,⟨⟨Tryz.func127,by kernel_rfl⟩,⟨⟨Tryz.func128,by kernel_rfl⟩,⟨⟨Tryz.func129,by kernel_rfl⟩,⟨⟨Tryz.func130,by kernel_rfl⟩,⟨⟨Tryz.func131,by kernel_rfl⟩,⟨⟨Tryz.func132,by kernel_rfl⟩,⟨⟨Tryz.func133,by kernel_rfl⟩,⟨⟨Tryz.func134,by kernel_rfl⟩,⟨⟨Tryz.func135,by kernel_rfl⟩,⟨⟨Tryz.func136,by kernel_rfl⟩,⟨⟨Tryz.func137,by kernel_rfl⟩,⟨⟨Tryz.func138,by kernel_rfl⟩,⟨⟨Tryz.func139,by kernel_rfl⟩,⟨⟨Tryz.func140,by kernel_rfl⟩,⟨⟨Tryz.func141,by kernel_rfl⟩,⟨⟨Tryz.func142,by kernel_rfl⟩,⟨⟨Tryz.func143,by kernel_rfl⟩,⟨⟨Tryz.func144,by kernel_rfl⟩,⟨⟨Tryz.func145,by kernel_rfl⟩,⟨⟨Tryz.func146,by kernel_rfl⟩,⟨⟨Tryz.func147,by kernel_rfl⟩,⟨⟨Tryz.func148,by kernel_rfl⟩,⟨⟨Tryz.func149,by kernel_rfl⟩,⟨⟨Tryz.func150,by kernel_rfl⟩,⟨⟨Tryz.func151,by kernel_rfl⟩,⟨⟨Tryz.func152,by kernel_rfl⟩,⟨⟨Tryz.func153,by kernel_rfl⟩,⟨⟨Tryz.func154,by kernel_rfl⟩,⟨⟨Tryz.func155,by kernel_rfl⟩,⟨⟨Tryz.func156,by kernel_rfl⟩,⟨⟨Tryz.func157,by kernel_rfl⟩,⟨⟨Tryz.func161,by kernel_rfl⟩,⟨⟨Tryz.func162,by kernel_rfl⟩,⟨⟨Tryz.func163,by kernel_rfl⟩,⟨⟨Tryz.func164,by kernel_rfl⟩,⟨⟨Tryz.func165,by kernel_rfl⟩,⟨⟨Tryz.func167,by kernel_rfl⟩,⟨⟨Tryz.func168,by kernel_rfl⟩,⟨⟨Tryz.func169,by kernel_rfl⟩,⟨⟨Tryz.func170,by kernel_rfl⟩,⟨⟨Tryz.func171,by kernel_rfl⟩,⟨⟨Tryz.func173,by kernel_rfl⟩,⟨⟨Tryz.func174,by kernel_rfl⟩,⟨⟨Tryz.func175,by kernel_rfl⟩,⟨⟨Tryz.func176,by kernel_rfl⟩,⟨⟨Tryz.func178,by kernel_rfl⟩,⟨⟨Tryz.func179,by kernel_rfl⟩,⟨⟨Tryz.func196,by kernel_rfl⟩,⟨⟨Tryz.func197,by kernel_rfl⟩,⟨⟨Tryz.func198,by kernel_rfl⟩,⟨⟨Tryz.func199,by kernel_rfl⟩,⟨⟨Tryz.func45,by kernel_rfl⟩,⟨⟨Tryz.func45,by kernel_rfl⟩,⟨⟨Tryz.func46,by kernel_rfl⟩,⟨⟨Tryz.func46,by kernel_rfl⟩,⟨⟨Tryz.func18,by kernel_rfl⟩,⟨⟨Tryz.func84,by kernel_rfl⟩,⟨⟨Tryz.func38,by kernel_rfl⟩,⟨⟨Tryz.func38,by kernel_rfl⟩,⟨⟨Tryz.func40,by kernel_rfl⟩,⟨⟨Tryz.func70,by kernel_rfl⟩,⟨⟨Tryz.func70,by kernel_rfl⟩,⟨⟨Tryz.func109,by kernel_rfl⟩,⟨⟨Tryz.func109,by kernel_rfl⟩,trivial⟩⟩⟩⟩⟩⟩⟩⟩⟩⟩⟩⟩⟩⟩⟩⟩⟩⟩⟩⟩⟩⟩⟩⟩⟩⟩⟩⟩⟩⟩⟩⟩⟩⟩⟩⟩⟩⟩⟩⟩⟩⟩⟩⟩⟩⟩⟩⟩⟩⟩⟩⟩⟩⟩⟩⟩⟩⟩⟩⟩⟩⟩⟩⟩⟩⟩⟩⟩⟩⟩⟩⟩⟩⟩⟩⟩⟩⟩⟩⟩⟩⟩⟩⟩⟩⟩⟩⟩⟩⟩⟩⟩⟩⟩⟩⟩⟩⟩⟩⟩⟩⟩⟩⟩⟩⟩⟩⟩⟩⟩⟩⟩⟩⟩⟩⟩⟩⟩⟩⟩⟩⟩⟩⟩⟩⟩⟩⟩⟩⟩⟩⟩⟩⟩⟩⟩⟩⟩⟩⟩⟩⟩⟩⟩⟩⟩⟩⟩⟩⟩⟩⟩⟩⟩⟩⟩⟩⟩⟩⟩⟩⟩⟩⟩⟩⟩⟩⟩⟩⟩⟩⟩⟩⟩⟩⟩⟩⟩⟩⟩⟩⟩⟩⟩)
end Go.Proofs.YtofjebmoebhiiaaGreatDoor.Ev
namespace Go.Proofs.YtofjebmoebhiiaaGreatDoor.Ev
open Go.Abs
noncomputable section
abbrev FV:=Int×Int×Unit
abbrev cQ:=List FV
abbrev zqC:=Int×ByteArray×cQ×Unit
abbrev xx:=List zqC
abbrev zqN:=Int×ByteArray×Nat×Unit
abbrev mj:=Int×xx×Unit
noncomputable abbrev lf:Nat→Option Func:=Go.Abs.look fns
abbrev yT:Ty:= .pair (.int .i64) (.pair (.int .i64) .unit)
abbrev yC:Ty:= .pair (.int .i64) (.pair .str (.pair (.slice (.st yT)) .unit))
abbrev yR:Ty:= .pair (.int .i64) (.pair .str (.pair (.ref 2) .unit))
abbrev yH:Ty:= .st (.pair (.int .i64) (.pair (.slice (.st yC)) .unit))
abbrev yG:Ty:= .st (.pair (.int .i64) (.pair (.ref 0) .unit))
abbrev H0:=List (Option (List zqC))
abbrev H1:=List (Option (List zqN))
abbrev H2:=List (Option (List FV))
abbrev H3:=List (Option (List FV))
abbrev H4:=List (Option (List Int))
abbrev H5:=List (Option (List ((mj)×Nat×Nat×Nat×Int×Int×Unit)))
abbrev H6:=List (Option (List (Option (List Int))))
abbrev H7:=List (Option (List Bool))
abbrev H8:=List (Option (List (Nat×ByteArray×Unit)))
abbrev H9:=List (Option (List mj))
abbrev hs (a0:H0)(a1:H1)(a2:H2)(a3:H3)(a4:H4)(a5:H5)(a6:H6)(a7:H7)(a8:H8)(a9:H9):List aT:=[⟨42, .st yC,0,true,a0⟩,⟨42, .st yR,0,true,a1⟩,⟨44, .st yT,0,true,a2⟩,⟨58, .st yT,0,true,a3⟩,⟨3, .int .i64,0,true,a4⟩,⟨95, .st (.pair (.st (.pair (.int .i64) (.pair (.slice (.st yC)) .unit))) (.pair (.ref 6) (.pair (.ref 4) (.pair (.ref 7) yT)))),1,true,a5⟩,⟨26, .o6 (.int .i64),0,true,a6⟩,⟨4, .bool,0,true,a7⟩,⟨101, .st (.pair (.ref 4) (.pair .str .unit)),0,true,a8⟩,⟨24,yH,0,true,a9⟩]
abbrev h0:List aT:=hs [] [] [] [] [] [] [] [] [] []
abbrev gl:List (Nat×AV):=[(1000000000, .oR [⟨.fn,(197:Nat)⟩,⟨.bool,false⟩]),(1000000001, .oR [⟨.fn,(199:Nat)⟩,⟨.bool,true⟩])]
abbrev aS (x:Int):AV:= .rv (.cv ⟨.int .i64,x⟩)
theorem e1 (v:Nat)(x:A9 T v):cP T B lf v x=alA T B lf v x:=Di T B lf v x
theorem l1 (v i:Nat)(σ:AS):LL T B lf v i σ=LL1 T B lf v i σ:=anE T B lf v i σ
abbrev ms (n:Nat)(a:List (Nat×AV))(b:List (Nat×BX))(h:List aT)(s:Nat):AS:=⟨⟨n,a,gl⟩,[],b,h,⟨.unit,()⟩,[],T.sites s⟩
theorem x1 {t0:Type}{r:Type}{f g:t0→r}(h:∀a0,f a0=g a0):g=f:=(funext fun a0=>h a0).symm
theorem x2 {t0:Type}{t1:Type}{r:Type}{f g:t0→t1→r}(h:∀a0 a1,f a0 a1=g a0 a1):g=f:=(funext fun a0=>funext fun a1=>h a0 a1).symm
theorem x3 {t0:Type}{t1:Type}{t2:Type}{r:Type}{f g:t0→t1→t2→r}(h:∀a0 a1 a2,f a0 a1 a2=g a0 a1 a2):g=f:=(funext fun a0=>funext fun a1=>funext fun a2=>h a0 a1 a2).symm
theorem x4 {t0:Type}{t1:Type}{t2:Type}{t3:Type}{r:Type}{f g:t0→t1→t2→t3→r}(h:∀a0 a1 a2 a3,f a0 a1 a2 a3=g a0 a1 a2 a3):g=f:=(funext fun a0=>funext fun a1=>funext fun a2=>funext fun a3=>h a0 a1 a2 a3).symm
theorem x5 {t0:Type}{t1:Type}{t2:Type}{t3:Type}{t4:Type}{r:Type}{f g:t0→t1→t2→t3→t4→r}(h:∀a0 a1 a2 a3 a4,f a0 a1 a2 a3 a4=g a0 a1 a2 a3 a4):g=f:=(funext fun a0=>funext fun a1=>funext fun a2=>funext fun a3=>funext fun a4=>h a0 a1 a2 a3 a4).symm
theorem x6 {t0:Type}{t1:Type}{t2:Type}{t3:Type}{t4:Type}{t5:Type}{r:Type}{f g:t0→t1→t2→t3→t4→t5→r}(h:∀a0 a1 a2 a3 a4 a5,f a0 a1 a2 a3 a4 a5=g a0 a1 a2 a3 a4 a5):g=f:=(funext fun a0=>funext fun a1=>funext fun a2=>funext fun a3=>funext fun a4=>funext fun a5=>h a0 a1 a2 a3 a4 a5).symm
theorem x7 {t0:Type}{t1:Type}{t2:Type}{t3:Type}{t4:Type}{t5:Type}{t6:Type}{r:Type}{f g:t0→t1→t2→t3→t4→t5→t6→r}(h:∀a0 a1 a2 a3 a4 a5 a6,f a0 a1 a2 a3 a4 a5 a6=g a0 a1 a2 a3 a4 a5 a6):g=f:=(funext fun a0=>funext fun a1=>funext fun a2=>funext fun a3=>funext fun a4=>funext fun a5=>funext fun a6=>h a0 a1 a2 a3 a4 a5 a6).symm
theorem x8 {t0:Type}{t1:Type}{t2:Type}{t3:Type}{t4:Type}{t5:Type}{t6:Type}{t7:Type}{r:Type}{f g:t0→t1→t2→t3→t4→t5→t6→t7→r}(h:∀a0 a1 a2 a3 a4 a5 a6 a7,f a0 a1 a2 a3 a4 a5 a6 a7=g a0 a1 a2 a3 a4 a5 a6 a7):g=f:=(funext fun a0=>funext fun a1=>funext fun a2=>funext fun a3=>funext fun a4=>funext fun a5=>funext fun a6=>funext fun a7=>h a0 a1 a2 a3 a4 a5 a6 a7).symm
theorem x9 {t0:Type}{t1:Type}{t2:Type}{t3:Type}{t4:Type}{t5:Type}{t6:Type}{t7:Type}{t8:Type}{r:Type}{f g:t0→t1→t2→t3→t4→t5→t6→t7→t8→r}(h:∀a0 a1 a2 a3 a4 a5 a6 a7 a8,f a0 a1 a2 a3 a4 a5 a6 a7 a8=g a0 a1 a2 a3 a4 a5 a6 a7 a8):g=f:=(funext fun a0=>funext fun a1=>funext fun a2=>funext fun a3=>funext fun a4=>funext fun a5=>funext fun a6=>funext fun a7=>funext fun a8=>h a0 a1 a2 a3 a4 a5 a6 a7 a8).symm
theorem x10 {t0:Type}{t1:Type}{t2:Type}{t3:Type}{t4:Type}{t5:Type}{t6:Type}{t7:Type}{t8:Type}{t9:Type}{r:Type}{f g:t0→t1→t2→t3→t4→t5→t6→t7→t8→t9→r}(h:∀a0 a1 a2 a3 a4 a5 a6 a7 a8 a9,f a0 a1 a2 a3 a4 a5 a6 a7 a8 a9=g a0 a1 a2 a3 a4 a5 a6 a7 a8 a9):g=f:=(funext fun a0=>funext fun a1=>funext fun a2=>funext fun a3=>funext fun a4=>funext fun a5=>funext fun a6=>funext fun a7=>funext fun a8=>funext fun a9=>h a0 a1 a2 a3 a4 a5 a6 a7 a8 a9).symm
theorem x11 {t0:Type}{t1:Type}{t2:Type}{t3:Type}{t4:Type}{t5:Type}{t6:Type}{t7:Type}{t8:Type}{t9:Type}{t10:Type}{r:Type}{f g:t0→t1→t2→t3→t4→t5→t6→t7→t8→t9→t10→r}(h:∀a0 a1 a2 a3 a4 a5 a6 a7 a8 a9 AY,f a0 a1 a2 a3 a4 a5 a6 a7 a8 a9 AY=g a0 a1 a2 a3 a4 a5 a6 a7 a8 a9 AY):g=f:=(funext fun a0=>funext fun a1=>funext fun a2=>funext fun a3=>funext fun a4=>funext fun a5=>funext fun a6=>funext fun a7=>funext fun a8=>funext fun a9=>funext fun AY=>h a0 a1 a2 a3 a4 a5 a6 a7 a8 a9 AY).symm
theorem x12 {t0:Type}{t1:Type}{t2:Type}{t3:Type}{t4:Type}{t5:Type}{t6:Type}{t7:Type}{t8:Type}{t9:Type}{t10:Type}{t11:Type}{r:Type}{f g:t0→t1→t2→t3→t4→t5→t6→t7→t8→t9→t10→t11→r}(h:∀a0 a1 a2 a3 a4 a5 a6 a7 a8 a9 AY Dj,f a0 a1 a2 a3 a4 a5 a6 a7 a8 a9 AY Dj=g a0 a1 a2 a3 a4 a5 a6 a7 a8 a9 AY Dj):g=f:=(funext fun a0=>funext fun a1=>funext fun a2=>funext fun a3=>funext fun a4=>funext fun a5=>funext fun a6=>funext fun a7=>funext fun a8=>funext fun a9=>funext fun AY=>funext fun Dj=>h a0 a1 a2 a3 a4 a5 a6 a7 a8 a9 AY Dj).symm
theorem x13 {t0:Type}{t1:Type}{t2:Type}{t3:Type}{t4:Type}{t5:Type}{t6:Type}{t7:Type}{t8:Type}{t9:Type}{t10:Type}{t11:Type}{t12:Type}{r:Type}{f g:t0→t1→t2→t3→t4→t5→t6→t7→t8→t9→t10→t11→t12→r}(h:∀a0 a1 a2 a3 a4 a5 a6 a7 a8 a9 AY Dj a12,f a0 a1 a2 a3 a4 a5 a6 a7 a8 a9 AY Dj a12=g a0 a1 a2 a3 a4 a5 a6 a7 a8 a9 AY Dj a12):g=f:=(funext fun a0=>funext fun a1=>funext fun a2=>funext fun a3=>funext fun a4=>funext fun a5=>funext fun a6=>funext fun a7=>funext fun a8=>funext fun a9=>funext fun AY=>funext fun Dj=>funext fun a12=>h a0 a1 a2 a3 a4 a5 a6 a7 a8 a9 AY Dj a12).symm
theorem x14 {t0:Type}{t1:Type}{t2:Type}{t3:Type}{t4:Type}{t5:Type}{t6:Type}{t7:Type}{t8:Type}{t9:Type}{t10:Type}{t11:Type}{t12:Type}{t13:Type}{r:Type}{f g:t0→t1→t2→t3→t4→t5→t6→t7→t8→t9→t10→t11→t12→t13→r}(h:∀a0 a1 a2 a3 a4 a5 a6 a7 a8 a9 AY Dj a12 J8,f a0 a1 a2 a3 a4 a5 a6 a7 a8 a9 AY Dj a12 J8=g a0 a1 a2 a3 a4 a5 a6 a7 a8 a9 AY Dj a12 J8):g=f:=(funext fun a0=>funext fun a1=>funext fun a2=>funext fun a3=>funext fun a4=>funext fun a5=>funext fun a6=>funext fun a7=>funext fun a8=>funext fun a9=>funext fun AY=>funext fun Dj=>funext fun a12=>funext fun J8=>h a0 a1 a2 a3 a4 a5 a6 a7 a8 a9 AY Dj a12 J8).symm
theorem x15 {t0:Type}{t1:Type}{t2:Type}{t3:Type}{t4:Type}{t5:Type}{t6:Type}{t7:Type}{t8:Type}{t9:Type}{t10:Type}{t11:Type}{t12:Type}{t13:Type}{t14:Type}{r:Type}{f g:t0→t1→t2→t3→t4→t5→t6→t7→t8→t9→t10→t11→t12→t13→t14→r}(h:∀a0 a1 a2 a3 a4 a5 a6 a7 a8 a9 AY Dj a12 J8 NG,f a0 a1 a2 a3 a4 a5 a6 a7 a8 a9 AY Dj a12 J8 NG=g a0 a1 a2 a3 a4 a5 a6 a7 a8 a9 AY Dj a12 J8 NG):g=f:=(funext fun a0=>funext fun a1=>funext fun a2=>funext fun a3=>funext fun a4=>funext fun a5=>funext fun a6=>funext fun a7=>funext fun a8=>funext fun a9=>funext fun AY=>funext fun Dj=>funext fun a12=>funext fun J8=>funext fun NG=>h a0 a1 a2 a3 a4 a5 a6 a7 a8 a9 AY Dj a12 J8 NG).symm
theorem x16 {t0:Type}{t1:Type}{t2:Type}{t3:Type}{t4:Type}{t5:Type}{t6:Type}{t7:Type}{t8:Type}{t9:Type}{t10:Type}{t11:Type}{t12:Type}{t13:Type}{t14:Type}{t15:Type}{r:Type}{f g:t0→t1→t2→t3→t4→t5→t6→t7→t8→t9→t10→t11→t12→t13→t14→t15→r}(h:∀a0 a1 a2 a3 a4 a5 a6 a7 a8 a9 AY Dj a12 J8 NG Rq,f a0 a1 a2 a3 a4 a5 a6 a7 a8 a9 AY Dj a12 J8 NG Rq=g a0 a1 a2 a3 a4 a5 a6 a7 a8 a9 AY Dj a12 J8 NG Rq):g=f:=(funext fun a0=>funext fun a1=>funext fun a2=>funext fun a3=>funext fun a4=>funext fun a5=>funext fun a6=>funext fun a7=>funext fun a8=>funext fun a9=>funext fun AY=>funext fun Dj=>funext fun a12=>funext fun J8=>funext fun NG=>funext fun Rq=>h a0 a1 a2 a3 a4 a5 a6 a7 a8 a9 AY Dj a12 J8 NG Rq).symm
theorem x17 {t0:Type}{t1:Type}{t2:Type}{t3:Type}{t4:Type}{t5:Type}{t6:Type}{t7:Type}{t8:Type}{t9:Type}{t10:Type}{t11:Type}{t12:Type}{t13:Type}{t14:Type}{t15:Type}{t16:Type}{r:Type}{f g:t0→t1→t2→t3→t4→t5→t6→t7→t8→t9→t10→t11→t12→t13→t14→t15→t16→r}(h:∀a0 a1 a2 a3 a4 a5 a6 a7 a8 a9 AY Dj a12 J8 NG Rq WT,f a0 a1 a2 a3 a4 a5 a6 a7 a8 a9 AY Dj a12 J8 NG Rq WT=g a0 a1 a2 a3 a4 a5 a6 a7 a8 a9 AY Dj a12 J8 NG Rq WT):g=f:=(funext fun a0=>funext fun a1=>funext fun a2=>funext fun a3=>funext fun a4=>funext fun a5=>funext fun a6=>funext fun a7=>funext fun a8=>funext fun a9=>funext fun AY=>funext fun Dj=>funext fun a12=>funext fun J8=>funext fun NG=>funext fun Rq=>funext fun WT=>h a0 a1 a2 a3 a4 a5 a6 a7 a8 a9 AY Dj a12 J8 NG Rq WT).symm
theorem x18 {t0:Type}{t1:Type}{t2:Type}{t3:Type}{t4:Type}{t5:Type}{t6:Type}{t7:Type}{t8:Type}{t9:Type}{t10:Type}{t11:Type}{t12:Type}{t13:Type}{t14:Type}{t15:Type}{t16:Type}{t17:Type}{r:Type}{f g:t0→t1→t2→t3→t4→t5→t6→t7→t8→t9→t10→t11→t12→t13→t14→t15→t16→t17→r}(h:∀a0 a1 a2 a3 a4 a5 a6 a7 a8 a9 AY Dj a12 J8 NG Rq WT a17,f a0 a1 a2 a3 a4 a5 a6 a7 a8 a9 AY Dj a12 J8 NG Rq WT a17=g a0 a1 a2 a3 a4 a5 a6 a7 a8 a9 AY Dj a12 J8 NG Rq WT a17):g=f:=(funext fun a0=>funext fun a1=>funext fun a2=>funext fun a3=>funext fun a4=>funext fun a5=>funext fun a6=>funext fun a7=>funext fun a8=>funext fun a9=>funext fun AY=>funext fun Dj=>funext fun a12=>funext fun J8=>funext fun NG=>funext fun Rq=>funext fun WT=>funext fun a17=>h a0 a1 a2 a3 a4 a5 a6 a7 a8 a9 AY Dj a12 J8 NG Rq WT a17).symm
theorem x19 {t0:Type}{t1:Type}{t2:Type}{t3:Type}{t4:Type}{t5:Type}{t6:Type}{t7:Type}{t8:Type}{t9:Type}{t10:Type}{t11:Type}{t12:Type}{t13:Type}{t14:Type}{t15:Type}{t16:Type}{t17:Type}{t18:Type}{r:Type}{f g:t0→t1→t2→t3→t4→t5→t6→t7→t8→t9→t10→t11→t12→t13→t14→t15→t16→t17→t18→r}(h:∀a0 a1 a2 a3 a4 a5 a6 a7 a8 a9 AY Dj a12 J8 NG Rq WT a17 a18,f a0 a1 a2 a3 a4 a5 a6 a7 a8 a9 AY Dj a12 J8 NG Rq WT a17 a18=g a0 a1 a2 a3 a4 a5 a6 a7 a8 a9 AY Dj a12 J8 NG Rq WT a17 a18):g=f:=(funext fun a0=>funext fun a1=>funext fun a2=>funext fun a3=>funext fun a4=>funext fun a5=>funext fun a6=>funext fun a7=>funext fun a8=>funext fun a9=>funext fun AY=>funext fun Dj=>funext fun a12=>funext fun J8=>funext fun NG=>funext fun Rq=>funext fun WT=>funext fun a17=>funext fun a18=>h a0 a1 a2 a3 a4 a5 a6 a7 a8 a9 AY Dj a12 J8 NG Rq WT a17 a18).symm
theorem x20 {t0:Type}{t1:Type}{t2:Type}{t3:Type}{t4:Type}{t5:Type}{t6:Type}{t7:Type}{t8:Type}{t9:Type}{t10:Type}{t11:Type}{t12:Type}{t13:Type}{t14:Type}{t15:Type}{t16:Type}{t17:Type}{t18:Type}{t19:Type}{r:Type}{f g:t0→t1→t2→t3→t4→t5→t6→t7→t8→t9→t10→t11→t12→t13→t14→t15→t16→t17→t18→t19→r}(h:∀a0 a1 a2 a3 a4 a5 a6 a7 a8 a9 AY Dj a12 J8 NG Rq WT a17 a18 a19,f a0 a1 a2 a3 a4 a5 a6 a7 a8 a9 AY Dj a12 J8 NG Rq WT a17 a18 a19=g a0 a1 a2 a3 a4 a5 a6 a7 a8 a9 AY Dj a12 J8 NG Rq WT a17 a18 a19):g=f:=(funext fun a0=>funext fun a1=>funext fun a2=>funext fun a3=>funext fun a4=>funext fun a5=>funext fun a6=>funext fun a7=>funext fun a8=>funext fun a9=>funext fun AY=>funext fun Dj=>funext fun a12=>funext fun J8=>funext fun NG=>funext fun Rq=>funext fun WT=>funext fun a17=>funext fun a18=>funext fun a19=>h a0 a1 a2 a3 a4 a5 a6 a7 a8 a9 AY Dj a12 J8 NG Rq WT a17 a18 a19).symm
abbrev af {α:Type}(_:α):Type:=α
def gX {α:Type}(f:α)(b:Nat→α)(n:Nat):α:=Nat.rec f (fun k _=>b k) n
def wJ {α:Type}(f:α)(b:Nat→α→α)(n:Nat):α:=Nat.rec f (fun k x=>b k x) n
theorem bl {α:Type}{f:α}{b:Nat→α}(h:∀w,b w=f):∀w,gX f b w=f
 |0=>rfl
 |w+1=>h w
theorem mkLe {α:Type}{f:α}{b:Nat→α→α}(h:∀w,b w f=f):∀w,wJ f b w=f
 |0=>rfl
 |w+1=>by
  show b w (wJ f b w)=f
  rw[mkLe h w]
  exact h w
def mI (raw:(List (List Int))×(List Int)×Int×(List Int)×Unit):Option (Bool):=cP T B lf 9 raw
def bG (n:Int)(m:cQ)(t:cQ)(t2:Int)(t3:Int):Option (Bool):=
 LL T B lf 9 0 (ms 102 [(62,aS t3),(61,aS t2),(60, .rv (.cv ⟨.slice (.st yT),t⟩)),(10, .rv (.cv ⟨.slice (.st yT),m⟩)),(4,aS n)] [] h0 9)
def cE (n:Int)(m:cQ)(found:Bool)(t:cQ)(t2:Int)(t3:Int)(t4:cQ)(t5:Int)(t6:Int)(q:Int)(q2:Int):Option (Bool):=
 LL T B lf 9 1 (ms 102 [(88,aS t6),(87,aS t5),(86, .rv (.cv ⟨.slice (.st yT),t4⟩)),(62,aS t3),(61,aS t2),(60, .rv (.cv ⟨.slice (.st yT),t⟩)),(16, .rv (.cv ⟨.bool,found⟩)),(15, .box 15 0),(10, .rv (.cv ⟨.slice (.st yT),m⟩)),(4,aS n)] [(15, .cells [⟨.int .i64,q⟩,⟨.int .i64,q2⟩])] h0 9)
def jJ:Option (Bool):=cP T B lf 13 ()
def qM (x:(List (List Int))×(List Int)×Int×(List Int)×Unit)(most:Int):Option mj:=cP T B lf 14 (x,most)
def eA (n:Int)(x:List (List Int))(x2:List Int)(x3:Int)(x4:List Int)(t:Int)(t2:Nat)(c:Int)(c2:xx):Option mj:=
 LL T B lf 14 0 (ms 134 [(9,aS n),(7, .box 7 0),(4, .box 4 0),(2, .box 2 0)] [(2, .cells [⟨.slice (.slice (.int .i64)),x⟩,⟨.slice (.int .i64),x2⟩,⟨.int .i64,x3⟩,⟨.slice (.int .i64),x4⟩]),(4, .cells [⟨.int .i64,t⟩,⟨.ref 0,t2⟩]),(7, .cells [⟨.int .i64,c⟩,⟨.slice (.st yC),c2⟩])] h0 14)
def fR (n:Int)(j:Int)(k:Int)(i:Int)(x:List (List Int))(x2:List Int)(x3:Int)(x4:List Int)(t:Int)(t2:Nat)(c:Int)(c2:xx):Option mj:=
 LL T B lf 14 1 (ms 134 [(12,aS i),(11,aS k),(10,aS j),(9,aS n),(7, .box 7 0),(4, .box 4 0),(2, .box 2 0)] [(2, .cells [⟨.slice (.slice (.int .i64)),x⟩,⟨.slice (.int .i64),x2⟩,⟨.int .i64,x3⟩,⟨.slice (.int .i64),x4⟩]),(4, .cells [⟨.int .i64,t⟩,⟨.ref 0,t2⟩]),(7, .cells [⟨.int .i64,c⟩,⟨.slice (.st yC),c2⟩])] h0 14)
def pX (c:mj)(k9:H0):Option ((Int×Nat×Unit)×H0):=cP T B lf 15 (c,k9)
def fo (i:Int)(c:Int)(c2:xx)(t:Int)(t2:Nat)(out:Int)(ai:Nat)(k9:H0):Option ((Int×Nat×Unit)×H0):=
 LL T B lf 15 0 (ms 33 [(4,aS i),(3, .box 3 0),(2, .box 2 0),(1, .box 1 0)] [(1, .cells [⟨.int .i64,c⟩,⟨.slice (.st yC),c2⟩]),(2, .cells [⟨.int .i64,t⟩,⟨.ref 0,t2⟩]),(3, .cells [⟨.int .i64,out⟩,⟨.ref 0,ai⟩])] (hs k9 [] [] [] [] [] [] [] [] []) 15)
def lT (c:mj):Option (mj×Int):=cP T B lf 18 c
def jy (last:Int)(t:Int)(t2:Int)(c:Int)(c2:xx)(t3:Int)(t4:Nat)(out:Int)(ai:Nat)(hp1:H1):Option (mj×Int):=
 LL T B lf 18 0 (ms 107 [(35,aS t2),(34,aS t),(6, .box 6 0),(5,aS last),(2, .box 2 0),(1, .box 1 0)] [(1, .cells [⟨.int .i64,c⟩,⟨.slice (.st yC),c2⟩]),(2, .cells [⟨.int .i64,t3⟩,⟨.ref 0,t4⟩]),(6, .cells [⟨.int .i64,out⟩,⟨.ref 1,ai⟩])] (hs [] hp1 [] [] [] [] [] [] [] []) 18)
def gY (last:Int)(k:Int)(c:Int)(c2:xx)(t:Int)(t2:Nat)(out:Int)(ai:Nat)(hp1:H1):Option (mj×Int):=
 LL T B lf 18 1 (ms 107 [(11,aS k),(6, .box 6 0),(5,aS last),(2, .box 2 0),(1, .box 1 0)] [(1, .cells [⟨.int .i64,c⟩,⟨.slice (.st yC),c2⟩]),(2, .cells [⟨.int .i64,t⟩,⟨.ref 0,t2⟩]),(6, .cells [⟨.int .i64,out⟩,⟨.ref 1,ai⟩])] (hs [] hp1 [] [] [] [] [] [] [] []) 18)
def sq (last:Int)(k:Int)(t:cQ)(t2:Int)(t3:Int)(c:Int)(c2:xx)(t4:Int)(t5:Nat)(out:Int)(ai:Nat)(hp1:H1):Option (mj×Int):=
 LL T B lf 18 2 (ms 107 [(80,aS t3),(79,aS t2),(78, .rv (.cv ⟨.slice (.st yT),t⟩)),(11,aS k),(6, .box 6 0),(5,aS last),(2, .box 2 0),(1, .box 1 0)] [(1, .cells [⟨.int .i64,c⟩,⟨.slice (.st yC),c2⟩]),(2, .cells [⟨.int .i64,t4⟩,⟨.ref 0,t5⟩]),(6, .cells [⟨.int .i64,out⟩,⟨.ref 1,ai⟩])] (hs [] hp1 [] [] [] [] [] [] [] []) 18)
def eV (last:Int)(k:Int)(t:cQ)(t2:Int)(t3:Int)(c:Int)(c2:xx)(t4:Int)(t5:Nat)(out:Int)(ai:Nat)(hp1:H1)(hp2:H2):Option (mj×Int):=
 LL T B lf 18 2 (ms 107 [(80,aS t3),(79,aS t2),(78, .rv (.cv ⟨.slice (.st yT),t⟩)),(11,aS k),(6, .box 6 0),(5,aS last),(2, .box 2 0),(1, .box 1 0)] [(1, .cells [⟨.int .i64,c⟩,⟨.slice (.st yC),c2⟩]),(2, .cells [⟨.int .i64,t4⟩,⟨.ref 0,t5⟩]),(6, .cells [⟨.int .i64,out⟩,⟨.ref 1,ai⟩])] (hs [] hp1 hp2 [] [] [] [] [] [] []) 18)
def iy (last:Int)(k:Int)(c:Int)(c2:xx)(t:Int)(t2:Nat)(out:Int)(ai:Nat)(hp1:H1)(hp2:H2):Option (mj×Int):=
 LL T B lf 18 1 (ms 107 [(11,aS k),(6, .box 6 0),(5,aS last),(2, .box 2 0),(1, .box 1 0)] [(1, .cells [⟨.int .i64,c⟩,⟨.slice (.st yC),c2⟩]),(2, .cells [⟨.int .i64,t⟩,⟨.ref 0,t2⟩]),(6, .cells [⟨.int .i64,out⟩,⟨.ref 1,ai⟩])] (hs [] hp1 hp2 [] [] [] [] [] [] []) 18)
def fJ (c:mj):Option (cQ×FV×Int):=cP T B lf 20 c
def iz (a:cQ)(b:cQ):Option (Bool):=cP T B lf 23 (a,b)
def cG (a:cQ)(b:cQ)(i:Int):Option (Bool):=
 LL T B lf 23 0 (ms 26 [(5,aS i),(1, .rv (.cv ⟨.slice (.st yT),b⟩)),(0, .rv (.cv ⟨.slice (.st yT),a⟩))] [] h0 23)
def yM (c:mj):Option (cQ×FV×Int):=cP T B lf 24 c
def mJ (c:mj):Option (cQ×FV×Int):=cP T B lf 26 c
def eB (l:Nat)(last:Int)(t:Nat)(t2:Int)(t3:Int)(t4:Int)(t5:Int)(w:Int)(w2:Int)(c5:H2):Option (cQ×FV×Int):=
 LL T B lf 26 0 (ms 66 [(33,aS t3),(32,aS t2),(31, .rv (.cv ⟨.ref 3,t⟩)),(9,aS last),(8, .box 8 0),(7, .rv (.cv ⟨.ref 3,l⟩)),(3, .box 3 0)] [(3, .cells [⟨.int .i64,t4⟩,⟨.int .i64,t5⟩]),(8, .cells [⟨.int .i64,w⟩,⟨.int .i64,w2⟩])] (hs [] [] [] c5 [] [] [] [] [] []) 26)
def jY:Option mj:=cP T B lf 28 ()
def gC (a:cQ)(b:cQ):Option (Bool):=cP T B lf 30 (a,b)
def ck (a:cQ)(b:cQ)(i:Int):Option (Bool):=
 LL T B lf 30 0 (ms 26 [(5,aS i),(1, .rv (.cv ⟨.slice (.st yT),b⟩)),(0, .rv (.cv ⟨.slice (.st yT),a⟩))] [] h0 30)
def u5 (l:List Int):Option cQ:=cP T B lf 31 l
def iU (l:List Int)(i:Int)(out:cQ):Option cQ:=
 LL T B lf 31 0 ⟨⟨26,[(4,aS i),(3, .rv (.own 3)),(0, .rv (.cv ⟨.slice (.int .i64),l⟩))],gl⟩,[(3,⟨44, .st yT,out⟩)],[],h0,⟨.unit,()⟩,[],T.sites 31⟩
def qN (l:List (List Int))(values:List Int)(most:Int)(Qm:Int)(n:Int):Option (List ((List Int)×ByteArray×Unit)):=cP T B lf 32 (l,values,most,Qm,n)
def fS (values:List Int)(c:List (List Int))(i:Int)(T2:List ByteArray):Option (List ((List Int)×ByteArray×Unit)):=
 LL T B lf 32 0 ⟨⟨57,[(13,aS i),(12, .rv (.own 12)),(11, .rv (.cv ⟨.slice (.slice (.int .i64)),c⟩)),(1, .rv (.cv ⟨.slice (.int .i64),values⟩))],gl⟩,[(12,⟨39, .str,T2⟩)],[],h0,⟨.unit,()⟩,[],T.sites 32⟩
def jz (f:List ((List Int)×ByteArray×Unit))(p:Int):Option (mj×Int):=cP T B lf 33 (f,p)
def jK (f:List ((List Int)×ByteArray×Unit))(p:Int)(j:Int)(t:Int)(t2:Nat)(out:Int)(ai:Nat):Option (mj×Int):=
 LL T B lf 33 0 (ms 93 [(8,aS j),(7, .box 7 0),(4, .box 4 0),(1,aS p),(0, .rv (.cv ⟨.slice (.st (.pair (.slice (.int .i64)) (.pair (.str) (.unit)))),f⟩))] [(4, .cells [⟨.int .i64,t⟩,⟨.ref 0,t2⟩]),(7, .cells [⟨.int .i64,out⟩,⟨.ref 0,ai⟩])] h0 33)
def gM (f:List ((List Int)×ByteArray×Unit))(p:Int)(j:Int)(v:Nat)(b9:List (List Int))(k:Int)(t:Int)(t2:Nat)(out:Int)(ai:Nat)(aD:H4):Option (mj×Int):=
 LL T B lf 33 1 (ms 93 [(11,aS k),(10, .rv (.cv ⟨.slice (.slice (.int .i64)),b9⟩)),(9, .rv (.cv ⟨.ref 4,v⟩)),(8,aS j),(7, .box 7 0),(4, .box 4 0),(1,aS p),(0, .rv (.cv ⟨.slice (.st (.pair (.slice (.int .i64)) (.pair (.str) (.unit)))),f⟩))] [(4, .cells [⟨.int .i64,t⟩,⟨.ref 0,t2⟩]),(7, .cells [⟨.int .i64,out⟩,⟨.ref 0,ai⟩])] (hs [] [] [] [] aD [] [] [] [] []) 33)
def gN (f:List ((List Int)×ByteArray×Unit))(p:Int)(j:Int)(v:Nat)(b9:List (List Int))(k:Int)(i:Int)(t:Int)(t2:Nat)(out:Int)(ai:Nat)(aD:H4):Option (mj×Int):=
 LL T B lf 33 2 (ms 93 [(12,aS i),(11,aS k),(10, .rv (.cv ⟨.slice (.slice (.int .i64)),b9⟩)),(9, .rv (.cv ⟨.ref 4,v⟩)),(8,aS j),(7, .box 7 0),(4, .box 4 0),(1,aS p),(0, .rv (.cv ⟨.slice (.st (.pair (.slice (.int .i64)) (.pair (.str) (.unit)))),f⟩))] [(4, .cells [⟨.int .i64,t⟩,⟨.ref 0,t2⟩]),(7, .cells [⟨.int .i64,out⟩,⟨.ref 0,ai⟩])] (hs [] [] [] [] aD [] [] [] [] []) 33)
def cM (f:List ((List Int)×ByteArray×Unit))(p:Int)(j:Int)(t:Int)(t2:Nat)(out:Int)(ai:Nat)(k9:H0)(aD:H4):Option (mj×Int):=
 LL T B lf 33 0 (ms 93 [(8,aS j),(7, .box 7 0),(4, .box 4 0),(1,aS p),(0, .rv (.cv ⟨.slice (.st (.pair (.slice (.int .i64)) (.pair (.str) (.unit)))),f⟩))] [(4, .cells [⟨.int .i64,t⟩,⟨.ref 0,t2⟩]),(7, .cells [⟨.int .i64,out⟩,⟨.ref 0,ai⟩])] (hs k9 [] [] [] aD [] [] [] [] []) 33)
def dC (f:List ((List Int)×ByteArray×Unit))(p:Int)(j:Int)(v:Nat)(b9:List (List Int))(k:Int)(t:Int)(t2:Nat)(out:Int)(ai:Nat)(k9:H0)(aD:H4):Option (mj×Int):=
 LL T B lf 33 1 (ms 93 [(11,aS k),(10, .rv (.cv ⟨.slice (.slice (.int .i64)),b9⟩)),(9, .rv (.cv ⟨.ref 4,v⟩)),(8,aS j),(7, .box 7 0),(4, .box 4 0),(1,aS p),(0, .rv (.cv ⟨.slice (.st (.pair (.slice (.int .i64)) (.pair (.str) (.unit)))),f⟩))] [(4, .cells [⟨.int .i64,t⟩,⟨.ref 0,t2⟩]),(7, .cells [⟨.int .i64,out⟩,⟨.ref 0,ai⟩])] (hs k9 [] [] [] aD [] [] [] [] []) 33)
def eG (f:List ((List Int)×ByteArray×Unit))(p:Int)(j:Int)(v:Nat)(b9:List (List Int))(k:Int)(i:Int)(t:Int)(t2:Nat)(out:Int)(ai:Nat)(k9:H0)(aD:H4):Option (mj×Int):=
 LL T B lf 33 2 (ms 93 [(12,aS i),(11,aS k),(10, .rv (.cv ⟨.slice (.slice (.int .i64)),b9⟩)),(9, .rv (.cv ⟨.ref 4,v⟩)),(8,aS j),(7, .box 7 0),(4, .box 4 0),(1,aS p),(0, .rv (.cv ⟨.slice (.st (.pair (.slice (.int .i64)) (.pair (.str) (.unit)))),f⟩))] [(4, .cells [⟨.int .i64,t⟩,⟨.ref 0,t2⟩]),(7, .cells [⟨.int .i64,out⟩,⟨.ref 0,ai⟩])] (hs k9 [] [] [] aD [] [] [] [] []) 33)
def qO (n:Int):Option (Int):=cP T B lf 34 n
def sU (c:mj)(i:Int)(j:Int)(k:Int)(m:Int):Option mj:=cP T B lf 35 (c,i,j,k,m)
def gO (i:Int)(j:Int)(k:Int)(m:Int)(inv:Int)(v:Nat)(a:List Int)(b:List Int)(n:Int)(c:Int)(c2:xx)(t:Int)(t2:Nat)(out:Int)(ai:Nat)(k9:H0)(aD:H4):Option mj:=
 LL T B lf 35 0 (ms 149 [(16,aS n),(15, .rv (.cv ⟨.slice (.int .i64),b⟩)),(14, .rv (.cv ⟨.slice (.int .i64),a⟩)),(13, .rv (.cv ⟨.ref 4,v⟩)),(12,aS inv),(11, .box 11 0),(10, .box 10 0),(5, .box 5 0),(4,aS m),(3,aS k),(2,aS j),(1,aS i)] [(5, .cells [⟨.int .i64,c⟩,⟨.slice (.st yC),c2⟩]),(10, .cells [⟨.int .i64,t⟩,⟨.ref 0,t2⟩]),(11, .cells [⟨.int .i64,out⟩,⟨.ref 0,ai⟩])] (hs k9 [] [] [] aD [] [] [] [] []) 35)
def gP (i:Int)(j:Int)(m:Int)(inv:Int)(n:Int)(c:Int)(c2:xx)(t:Int)(t2:Nat)(out:Int)(ai:Nat)(k9:H0)(aD:H4):Option mj:=
 LL T B lf 35 1 (ms 149 [(17,aS n),(12,aS inv),(11, .box 11 0),(10, .box 10 0),(5, .box 5 0),(4,aS m),(2,aS j),(1,aS i)] [(5, .cells [⟨.int .i64,c⟩,⟨.slice (.st yC),c2⟩]),(10, .cells [⟨.int .i64,t⟩,⟨.ref 0,t2⟩]),(11, .cells [⟨.int .i64,out⟩,⟨.ref 0,ai⟩])] (hs k9 [] [] [] aD [] [] [] [] []) 35)
def gQ (p:Int):Option (Bool):=cP T B lf 36 p
def eC (p:Int)(k:Int):Option (Bool):=
 LL T B lf 36 0 (ms 23 [(3,aS k),(0,aS p)] [] h0 36)
def qP (x:cQ)(n:Int):Option (List Int):=cP T B lf 38 (x,n)
def fT (x:cQ)(i:Int)(out:List Int):Option (List Int):=
 LL T B lf 38 0 ⟨⟨28,[(6,aS i),(5, .rv (.own 5)),(0, .rv (.cv ⟨.slice (.st yT),x⟩))],gl⟩,[(5,⟨3, .int .i64,out⟩)],[],h0,⟨.unit,()⟩,[],T.sites 38⟩
def jA (c:mj):Option (Int):=cP T B lf 41 c
def dJ (t:xx)(t2:Int)(t3:Int)(c:Int)(c2:xx)(last:Bool)(Vw:List Int)(Vx:Bool)(Vy:List Int):Option (Int):=
 LL T B lf 41 0 (ms 81 [(20,aS t3),(19,aS t2),(18, .rv (.cv ⟨.slice (.st yC),t⟩)),(3, .box 3 0),(1, .box 1 0)] [(1, .cells [⟨.int .i64,c⟩,⟨.slice (.st yC),c2⟩]),(3, .cells [⟨.bool,last⟩,⟨.slice (.int .u32),Vw⟩,⟨.bool,Vx⟩,⟨.slice (.int .u32),Vy⟩])] h0 41)
def gg (a:ByteArray):Option (((Bool×(List Int)×Unit)×(Bool×(List Int)×Unit)×Unit)×Bool):=cP T B lf 42 a
def oT (a:(Bool×(List Int)×Unit)×(Bool×(List Int)×Unit)×Unit):Option ((Bool×(List Int)×Unit)×(Bool×(List Int)×Unit)×Unit):=cP T B lf 43 a
def mK (a:(Bool×(List Int)×Unit)×(Bool×(List Int)×Unit)×Unit):Option (ByteArray):=cP T B lf 44 a
def slices_SortFunc (x:Nat)(c5:H2):Option ((Unit)×H2):=cP T B lf 50 ((x,()),c5)
def qQ (l:List (List Int)):Option (List (List Int)):=cP T B lf 53 l
def fU (l:List (List Int))(i:Int)(out:List (List Int)):Option (List (List Int)):=
 LL T B lf 53 0 ⟨⟨21,[(4,aS i),(3, .rv (.own 3)),(0, .rv (.cv ⟨.slice (.slice (.int .i64)),l⟩))],gl⟩,[(3,⟨26, .slice (.int .i64),out⟩)],[],h0,⟨.unit,()⟩,[],T.sites 53⟩
def qR (l:List (List Int))(most:Int)(Qm:Int)(n:Int):Option (List (List Int)):=cP T B lf 54 (l,most,Qm,n)
def fV (l:List (List Int))(most:Int)(Qm:Int)(n:Int)(i:Int)(Qn:List (List Int)):Option (List (List Int)):=
 LL T B lf 54 0 ⟨⟨49,[(10,aS i),(9, .rv (.own 9)),(3,aS n),(2,aS Qm),(1,aS most),(0, .rv (.cv ⟨.slice (.slice (.int .i64)),l⟩))],gl⟩,[(9,⟨26, .slice (.int .i64),Qn⟩)],[],h0,⟨.unit,()⟩,[],T.sites 54⟩
def eD (t:List (List Int))(t2:Int)(t3:Int)(out:List (List Int)):Option (List (List Int)):=
 LL T B lf 54 1 ⟨⟨49,[(39,aS t3),(38,aS t2),(37, .rv (.cv ⟨.slice (.slice (.int .i64)),t⟩)),(11, .rv (.own 11))],gl⟩,[(11,⟨99, .slice (.int .i64),out⟩)],[],h0,⟨.unit,()⟩,[],T.sites 54⟩
def qS (n:Int):Option (ByteArray):=cP T B lf 55 n
def yc (l:List (List Int))(values:List ByteArray):Option ((List ((List Int)×ByteArray×Unit))×Int):=cP T B lf 56 (l,values)
def jL (l:List (List Int))(values:List ByteArray)(i:Int):Option ((List ((List Int)×ByteArray×Unit))×Int):=
 LL T B lf 56 0 (ms 83 [(7,aS i),(1, .rv (.cv ⟨.slice (.str),values⟩)),(0, .rv (.cv ⟨.slice (.slice (.int .i64)),l⟩))] [] h0 56)
def gR (l:List (List Int))(values:List ByteArray)(i:Int)(out:List ((List Int)×ByteArray×Unit)):Option ((List ((List Int)×ByteArray×Unit))×Int):=
 LL T B lf 56 1 ⟨⟨83,[(9,aS i),(8, .rv (.own 8)),(1, .rv (.cv ⟨.slice (.str),values⟩)),(0, .rv (.cv ⟨.slice (.slice (.int .i64)),l⟩))],gl⟩,[(8,⟨101, .st (.pair (.slice (.int .i64)) (.pair (.str) (.unit))),out⟩)],[],h0,⟨.unit,()⟩,[],T.sites 56⟩
def jM (l:List (List Int))(values:List ByteArray)(i:Int)(T2:ByteArray)(k:Int)(out:List ((List Int)×ByteArray×Unit)):Option ((List ((List Int)×ByteArray×Unit))×Int):=
 LL T B lf 56 2 ⟨⟨83,[(11,aS k),(10, .rv (.cv ⟨.str,T2⟩)),(9,aS i),(8, .rv (.own 8)),(1, .rv (.cv ⟨.slice (.str),values⟩)),(0, .rv (.cv ⟨.slice (.slice (.int .i64)),l⟩))],gl⟩,[(8,⟨101, .st (.pair (.slice (.int .i64)) (.pair (.str) (.unit))),out⟩)],[],h0,⟨.unit,()⟩,[],T.sites 56⟩
def jN (f:List ((List Int)×ByteArray×Unit)):Option (Int):=cP T B lf 57 f
def cw (f:List ((List Int)×ByteArray×Unit))(i:Int):Option (Int):=
 LL T B lf 57 0 (ms 59 [(3,aS i),(0, .rv (.cv ⟨.slice (.st (.pair (.slice (.int .i64)) (.pair (.str) (.unit)))),f⟩))] [] h0 57)
def dg (f:List ((List Int)×ByteArray×Unit))(i:Int)(b9:List (List Int))(k:Int):Option (Int):=
 LL T B lf 57 1 (ms 59 [(6,aS k),(5, .rv (.cv ⟨.slice (.slice (.int .i64)),b9⟩)),(3,aS i),(0, .rv (.cv ⟨.slice (.st (.pair (.slice (.int .i64)) (.pair (.str) (.unit)))),f⟩))] [] h0 57)
def bD (s:List Int):Option (List (List Int)):=cP T B lf 58 s
def cR (s:List Int)(i:Int)(out:List (List Int)):Option (List (List Int)):=
 LL T B lf 58 0 ⟨⟨23,[(4,aS i),(3, .rv (.own 3)),(0, .rv (.cv ⟨.slice (.int .i64),s⟩))],gl⟩,[(3,⟨26, .slice (.int .i64),out⟩)],[],h0,⟨.unit,()⟩,[],T.sites 58⟩
def aV (a:List Int)(b:List Int):Option (Int):=cP T B lf 59 (a,b)
def eH (a:List Int)(b:List Int)(i:Int):Option (Int):=
 LL T B lf 59 0 (ms 40 [(5,aS i),(1, .rv (.cv ⟨.slice (.int .i64),b⟩)),(0, .rv (.cv ⟨.slice (.int .i64),a⟩))] [] h0 59)
def nC (p:Int)(a:Int):Option (Int):=cP T B lf 60 (p,a)
def eN (p:Int)(a:Int)(b:Int):Option (Int):=
 LL T B lf 60 0 (ms 18 [(5,aS b),(1,aS a),(0,aS p)] [] h0 60)
def fp (a:ByteArray):Option (Bool):=cP T B lf 61 a
def bH (a:ByteArray)(b:ByteArray):Option (Int):=cP T B lf 64 (a,b)
def cH (a:ByteArray):Option (ByteArray×ByteArray×Bool):=cP T B lf 65 a
def dh (a:ByteArray)(i:Int):Option (ByteArray×ByteArray×Bool):=
 LL T B lf 65 0 (ms 24 [(5,aS i),(0, .rv (.cv ⟨.str,a⟩))] [] h0 65)
def di (a:ByteArray):Option (ByteArray):=cP T B lf 66 a
def lU (p:Int):Option (Bool):=cP T B lf 67 p
def jB (p:Int)(t:Int):Option (Bool):=
 LL T B lf 67 0 (ms 27 [(4,aS t),(0,aS p)] [] h0 67)
def tS (a:ByteArray):Option (Bool):=cP T B lf 68 a
def lr (p:Int)(c:cQ):Option (Int):=cP T B lf 69 (p,c)
def gh (p:Int)(c:cQ)(t:cQ)(t2:Int)(t3:Int):Option (Int):=
 LL T B lf 69 0 (ms 52 [(12,aS t3),(11,aS t2),(10, .rv (.cv ⟨.slice (.st yT),t⟩)),(1, .rv (.cv ⟨.slice (.st yT),c⟩)),(0,aS p)] [] h0 69)
def sr (t:Int×Int×Unit)(t2:Int):Option (Bool):=cP T B lf 71 (t,t2)
def su (t:Int×Int×Unit)(t2:mj)(t3:zqC):Option (Bool):=cP T B lf 72 (t,t2,t3)
def tT (c:mj)(x:cQ):Option cQ:=cP T B lf 73 (c,x)
def mL (t:cQ)(t2:Int)(t3:Int)(out:cQ)(c:Int)(c2:xx):Option cQ:=
 LL T B lf 73 0 ⟨⟨31,[(9,aS t3),(8,aS t2),(7, .rv (.cv ⟨.slice (.st yT),t⟩)),(4, .rv (.own 4)),(2, .box 2 0)],gl⟩,[(4,⟨44, .st yT,out⟩)],[(2, .cells [⟨.int .i64,c⟩,⟨.slice (.st yC),c2⟩])],h0,⟨.unit,()⟩,[],T.sites 73⟩
def eZ (out:cQ)(t:cQ)(t2:Int)(t3:Int)(c:Int)(c2:xx):Option cQ:=
 LL T B lf 73 0 (ms 31 [(9,aS t3),(8,aS t2),(7, .rv (.cv ⟨.slice (.st yT),t⟩)),(4, .rv (.cv ⟨.slice (.st yT),out⟩)),(2, .box 2 0)] [(2, .cells [⟨.int .i64,c⟩,⟨.slice (.st yC),c2⟩])] h0 73)
def oU (a:(Bool×(List Int)×Unit)×(Bool×(List Int)×Unit)×Unit)(b:(Bool×(List Int)×Unit)×(Bool×(List Int)×Unit)×Unit):Option (Int):=cP T B lf 74 (a,b)
def tU (s:ByteArray)(sep:ByteArray):Option (ByteArray×ByteArray×Bool):=cP T B lf 75 (s,sep)
def ET (a:ByteArray):Option ((Bool×(List Int)×Unit)×Bool):=cP T B lf 76 a
def jC (s:ByteArray)(neg:Bool)(D8:Int)(d:List Int)(t:Bool)(t2:List Int):Option ((Bool×(List Int)×Unit)×Bool):=
 LL T B lf 76 0 ⟨⟨71,[(7,aS D8),(6, .rv (.own 6)),(5, .rv (.cv ⟨.bool,neg⟩)),(4, .rv (.cv ⟨.str,s⟩)),(2, .box 2 0)],gl⟩,[(6,⟨168, .int .u32,d⟩)],[(2, .cells [⟨.bool,t⟩,⟨.slice (.int .u32),t2⟩])],h0,⟨.unit,()⟩,[],T.sites 76⟩
def nt (s:ByteArray)(neg:Bool)(D8:Int)(x:Int)(t:List Int)(t2:Int)(t3:Int)(d:List Int)(t4:Bool)(t5:List Int):Option ((Bool×(List Int)×Unit)×Bool):=
 LL T B lf 76 1 ⟨⟨71,[(46,aS t3),(45,aS t2),(44, .rv (.cv ⟨.slice (.int .u8),t⟩)),(8, .rv (.cv ⟨.int .u32,x⟩)),(7,aS D8),(6, .rv (.own 6)),(5, .rv (.cv ⟨.bool,neg⟩)),(4, .rv (.cv ⟨.str,s⟩)),(2, .box 2 0)],gl⟩,[(6,⟨168, .int .u32,d⟩)],[(2, .cells [⟨.bool,t4⟩,⟨.slice (.int .u32),t5⟩])],h0,⟨.unit,()⟩,[],T.sites 76⟩
def xy (n:Int):Option (Bool×(List Int)×Unit):=cP T B lf 77 n
def tV (u:Int)(neg:Bool)(d:List Int)(t:Bool)(t2:List Int):Option (Bool×(List Int)×Unit):=
 LL T B lf 77 0 ⟨⟨26,[(5, .rv (.own 5)),(4, .rv (.cv ⟨.bool,neg⟩)),(3, .rv (.cv ⟨.int .u64,u⟩)),(2, .box 2 0)],gl⟩,[(5,⟨168, .int .u32,d⟩)],[(2, .cells [⟨.bool,t⟩,⟨.slice (.int .u32),t2⟩])],h0,⟨.unit,()⟩,[],T.sites 77⟩
def iA (a:Bool×(List Int)×Unit):Option (Int):=cP T B lf 78 a
def fF (a:Bool×(List Int)×Unit)(b:Bool×(List Int)×Unit):Option (Int):=cP T B lf 79 (a,b)
def oV (a:Bool×(List Int)×Unit)(b:Bool×(List Int)×Unit):Option (Bool×(List Int)×Unit):=cP T B lf 80 (a,b)
def ed (x:List Int)(y:List Int)(t:Bool)(t2:List Int):Option (Bool×(List Int)×Unit):=
 LL T B lf 80 0 (ms 41 [(6, .rv (.cv ⟨.slice (.int .u32),y⟩)),(5, .rv (.cv ⟨.slice (.int .u32),x⟩)),(4, .box 4 0)] [(4, .cells [⟨.bool,t⟩,⟨.slice (.int .u32),t2⟩])] h0 80)
def oW (a:Bool×(List Int)×Unit):Option (Bool×(List Int)×Unit):=cP T B lf 81 a
def jD (a:(Bool×(List Int)×Unit)×(Bool×(List Int)×Unit)×Unit):Option (Bool×(List Int)×Unit):=cP T B lf 82 a
def mM (a:Bool×(List Int)×Unit):Option (ByteArray):=cP T B lf 83 a
def dD (t:List Int)(t2:Int)(t3:Int)(out:List Int)(a:Bool)(a2:List Int):Option (ByteArray):=
 LL T B lf 83 0 ⟨⟨81,[(21,aS t3),(20,aS t2),(19, .rv (.cv ⟨.slice (.int .u32),t⟩)),(3, .rv (.own 3)),(1, .box 1 0)],gl⟩,[(3,⟨5, .int .u8,out⟩)],[(1, .cells [⟨.bool,a⟩,⟨.slice (.int .u32),a2⟩])],h0,⟨.unit,()⟩,[],T.sites 83⟩
def eI (x:Int)(t:List Int)(t2:Int)(t3:Int)(t4:Int)(out:List Int)(a:Bool)(a2:List Int):Option (ByteArray):=
 LL T B lf 83 1 ⟨⟨81,[(25,aS t4),(21,aS t3),(20,aS t2),(19, .rv (.cv ⟨.slice (.int .u32),t⟩)),(5, .rv (.cv ⟨.int .u32,x⟩)),(3, .rv (.own 3)),(1, .box 1 0)],gl⟩,[(3,⟨5, .int .u8,out⟩)],[(1, .cells [⟨.bool,a⟩,⟨.slice (.int .u32),a2⟩])],h0,⟨.unit,()⟩,[],T.sites 83⟩
def dE (out:List Int)(a:Bool)(a2:List Int):Option (ByteArray):=
 LL T B lf 83 2 ⟨⟨81,[(3, .rv (.own 3)),(1, .box 1 0)],gl⟩,[(3,⟨5, .int .u8,out⟩)],[(1, .cells [⟨.bool,a⟩,⟨.slice (.int .u32),a2⟩])],h0,⟨.unit,()⟩,[],T.sites 83⟩
def dF (i:Int)(j:Int)(out:List Int):Option (ByteArray):=
 LL T B lf 83 3 ⟨⟨81,[(7,aS j),(6,aS i),(3, .rv (.own 3))],gl⟩,[(3,⟨5, .int .u8,out⟩)],[],h0,⟨.unit,()⟩,[],T.sites 83⟩
def lu (s:cQ):Option cQ:=cP T B lf 84 s
def iV (c:cQ):Option (Int×Bool):=cP T B lf 85 c
def yN (p:Int)(a:Int):Option (Int×Int):=cP T B lf 86 (p,a)
def iW (p:Int)(a:cQ)(k:Int)(b:cQ):Option (cQ×Int):=cP T B lf 87 (p,a,k,b)
def sw (p:Int)(a:Int):Option (Int):=cP T B lf 88 (p,a)
def qT (l:List Int)(most:Int)(n:Int):Option (List Int):=cP T B lf 93 (l,most,n)
def fW (l:List Int)(most:Int)(n:Int)(i:Int)(out:List Int):Option (List Int):=
 LL T B lf 93 0 ⟨⟨52,[(8,aS i),(7, .rv (.own 7)),(2,aS n),(1,aS most),(0, .rv (.cv ⟨.slice (.int .i64),l⟩))],gl⟩,[(7,⟨3, .int .i64,out⟩)],[],h0,⟨.unit,()⟩,[],T.sites 93⟩
def lv (l:List (List Int)):Option (List (List Int)):=cP T B lf 94 l
def ft (l:List (List Int))(i:Int)(out:List (List Int)):Option (List (List Int)):=
 LL T B lf 94 0 ⟨⟨31,[(4,aS i),(3, .rv (.own 3)),(0, .rv (.cv ⟨.slice (.slice (.int .i64)),l⟩))],gl⟩,[(3,⟨26, .slice (.int .i64),out⟩)],[],h0,⟨.unit,()⟩,[],T.sites 94⟩
def qg (l:List (List Int))(i:Int)(f:List (List Int))(k:Int)(out:List (List Int)):Option (List (List Int)):=
 LL T B lf 94 1 ⟨⟨31,[(6,aS k),(5, .rv (.cv ⟨.slice (.slice (.int .i64)),f⟩)),(4,aS i),(3, .rv (.own 3)),(0, .rv (.cv ⟨.slice (.slice (.int .i64)),l⟩))],gl⟩,[(3,⟨26, .slice (.int .i64),out⟩)],[],h0,⟨.unit,()⟩,[],T.sites 94⟩
def cn (l:List (List Int))(out:List (List Int))(i:Int)(f:List (List Int))(k:Int):Option (List (List Int)):=
 LL T B lf 94 1 (ms 31 [(6,aS k),(5, .rv (.cv ⟨.slice (.slice (.int .i64)),f⟩)),(4,aS i),(3, .rv (.cv ⟨.slice (.slice (.int .i64)),out⟩)),(0, .rv (.cv ⟨.slice (.slice (.int .i64)),l⟩))] [] h0 94)
def gD (l:List (List Int))(out:List (List Int))(i:Int):Option (List (List Int)):=
 LL T B lf 94 0 (ms 31 [(4,aS i),(3, .rv (.cv ⟨.slice (.slice (.int .i64)),out⟩)),(0, .rv (.cv ⟨.slice (.slice (.int .i64)),l⟩))] [] h0 94)
def fX (a:Int)(b:Int):Option (ByteArray):=cP T B lf 95 (a,b)
def qU (l:List (List Int)):Option (Int):=cP T B lf 96 l
def eE (l:List (List Int))(i:Int):Option (Int):=
 LL T B lf 96 0 (ms 72 [(3,aS i),(0, .rv (.cv ⟨.slice (.slice (.int .i64)),l⟩))] [] h0 96)
def fY (l:List (List Int))(i:Int)(f:List (List Int))(k:Int):Option (Int):=
 LL T B lf 96 1 (ms 72 [(6,aS k),(5, .rv (.cv ⟨.slice (.slice (.int .i64)),f⟩)),(3,aS i),(0, .rv (.cv ⟨.slice (.slice (.int .i64)),l⟩))] [] h0 96)
def u6 (a:List Int)(b:List Int):Option (Bool):=cP T B lf 97 (a,b)
def iI (a:List Int)(b:List Int)(i:Int):Option (Bool):=
 LL T B lf 97 0 (ms 19 [(5,aS i),(1, .rv (.cv ⟨.slice (.int .i64),b⟩)),(0, .rv (.cv ⟨.slice (.int .i64),a⟩))] [] h0 97)
def lx (l:List ((List Int)×ByteArray×Unit)):Option (List ((List Int)×ByteArray×Unit)):=cP T B lf 98 l
def bz (out:Nat)(i:Int)(aD:H4)(kn:H8):Option (List ((List Int)×ByteArray×Unit)):=
 LL T B lf 98 0 (ms 70 [(4,aS i),(3, .rv (.cv ⟨.ref 8,out⟩))] [] (hs [] [] [] [] aD [] [] [] kn []) 98)
def dK (out:Nat)(i:Int)(k:Int)(aD:H4)(kn:H8):Option (List ((List Int)×ByteArray×Unit)):=
 LL T B lf 98 1 (ms 70 [(5,aS k),(4,aS i),(3, .rv (.cv ⟨.ref 8,out⟩))] [] (hs [] [] [] [] aD [] [] [] kn []) 98)
def lb (f:List ((List Int)×ByteArray×Unit))(i:Int):Option (Int):=cP T B lf 99 (f,i)
def ee (f:List ((List Int)×ByteArray×Unit))(n:Int)(s:List Int):Option (Int):=cP T B lf 100 (f,n,s)
def cz (f:List ((List Int)×ByteArray×Unit))(n:Int)(s:List Int)(i:Int):Option (Int):=
 LL T B lf 100 0 (ms 22 [(7,aS i),(2, .rv (.cv ⟨.slice (.int .i64),s⟩)),(1,aS n),(0, .rv (.cv ⟨.slice (.st (.pair (.slice (.int .i64)) (.pair (.str) (.unit)))),f⟩))] [] h0 100)
def gS (s:List Int)(k:Int):Option (List Int):=cP T B lf 101 (s,k)
def bL (s:List Int)(k:Int)(i:Int)(out:List Int):Option (List Int):=
 LL T B lf 101 0 ⟨⟨24,[(6,aS i),(5, .rv (.own 5)),(1,aS k),(0, .rv (.cv ⟨.slice (.int .i64),s⟩))],gl⟩,[(5,⟨3, .int .i64,out⟩)],[],h0,⟨.unit,()⟩,[],T.sites 101⟩
def lh (a:ByteArray):Option (Bool):=cP T B lf 102 a
def oX (a:ByteArray):Option (Bool):=cP T B lf 103 a
def bJ (a:ByteArray)(b:ByteArray):Option (Int):=cP T B lf 104 (a,b)
def fu (a:ByteArray)(b:ByteArray):Option (ByteArray):=cP T B lf 105 (a,b)
def bu (p:Bool)(x:List Int)(q:Bool)(y:List Int)(i:Int)(out:List Int):Option (ByteArray):=
 LL T B lf 105 0 ⟨⟨120,[(14,aS i),(13, .rv (.own 13)),(12, .rv (.cv ⟨.slice (.int .i64),y⟩)),(11, .rv (.cv ⟨.bool,q⟩)),(10, .rv (.cv ⟨.slice (.int .i64),x⟩)),(9, .rv (.cv ⟨.bool,p⟩))],gl⟩,[(13,⟨3, .int .i64,out⟩)],[],h0,⟨.unit,()⟩,[],T.sites 105⟩
def dj (p:Bool)(x:List Int)(q:Bool)(y:List Int)(i:Int)(k:Int)(out:List Int):Option (ByteArray):=
 LL T B lf 105 1 ⟨⟨120,[(15,aS k),(14,aS i),(13, .rv (.own 13)),(12, .rv (.cv ⟨.slice (.int .i64),y⟩)),(11, .rv (.cv ⟨.bool,q⟩)),(10, .rv (.cv ⟨.slice (.int .i64),x⟩)),(9, .rv (.cv ⟨.bool,p⟩))],gl⟩,[(13,⟨3, .int .i64,out⟩)],[],h0,⟨.unit,()⟩,[],T.sites 105⟩
def cA (p:Bool)(q:Bool)(i:Int)(out:List Int):Option (ByteArray):=
 LL T B lf 105 2 ⟨⟨120,[(16,aS i),(13, .rv (.own 13)),(11, .rv (.cv ⟨.bool,q⟩)),(9, .rv (.cv ⟨.bool,p⟩))],gl⟩,[(13,⟨3, .int .i64,out⟩)],[],h0,⟨.unit,()⟩,[],T.sites 105⟩
def aq (a:ByteArray):Option (Bool×List Int):=cP T B lf 106 a
def cS (a:ByteArray)(minus:Bool)(i:Int)(d:List Int):Option (Bool×List Int):=
 LL T B lf 106 0 ⟨⟨37,[(6,aS i),(5, .rv (.own 5)),(4, .rv (.cv ⟨.bool,minus⟩)),(0, .rv (.cv ⟨.str,a⟩))],gl⟩,[(5,⟨3, .int .i64,d⟩)],[],h0,⟨.unit,()⟩,[],T.sites 106⟩
def al (minus:Bool)(d:List Int):Option (ByteArray):=cP T B lf 107 (minus,d)
def dL (d:List Int)(i:Int)(out:List Int):Option (ByteArray):=
 LL T B lf 107 0 ⟨⟨34,[(6,aS i),(5, .rv (.own 5)),(1, .rv (.cv ⟨.slice (.int .i64),d⟩))],gl⟩,[(5,⟨5, .int .u8,out⟩)],[],h0,⟨.unit,()⟩,[],T.sites 107⟩
def Br (a:ByteArray):Option (((Bool×(List Int)×Unit)×(Bool×(List Int)×Unit)×Unit)×Bool):=cP T B lf 108 a
def oY (a:Bool×(List Int)×Unit)(b:Bool×(List Int)×Unit):Option (Bool×(List Int)×Unit):=cP T B lf 110 (a,b)
def dc (t:List Int)(t2:Int)(t3:Int)(out:List Int)(a:Bool)(a2:List Int)(b:Bool)(b2:List Int)(t4:Bool)(t5:List Int):Option (Bool×(List Int)×Unit):=
 LL T B lf 110 0 ⟨⟨78,[(22,aS t3),(21,aS t2),(20, .rv (.cv ⟨.slice (.int .u32),t⟩)),(5, .rv (.own 5)),(4, .box 4 0),(3, .box 3 0),(2, .box 2 0)],gl⟩,[(5,⟨168, .int .u32,out⟩)],[(2, .cells [⟨.bool,a⟩,⟨.slice (.int .u32),a2⟩]),(3, .cells [⟨.bool,b⟩,⟨.slice (.int .u32),b2⟩]),(4, .cells [⟨.bool,t4⟩,⟨.slice (.int .u32),t5⟩])],h0,⟨.unit,()⟩,[],T.sites 110⟩
def fw (i:Int)(x:Int)(carry:Int)(t:List Int)(t2:Int)(t3:Int)(t4:List Int)(t5:Int)(t6:Int)(out:List Int)(a:Bool)(a2:List Int)(b:Bool)(b2:List Int)(t7:Bool)(t8:List Int):Option (Bool×(List Int)×Unit):=
 LL T B lf 110 1 ⟨⟨78,[(30,aS t6),(29,aS t5),(28, .rv (.cv ⟨.slice (.int .u32),t4⟩)),(22,aS t3),(21,aS t2),(20, .rv (.cv ⟨.slice (.int .u32),t⟩)),(8, .rv (.cv ⟨.int .u64,carry⟩)),(7, .rv (.cv ⟨.int .u32,x⟩)),(6,aS i),(5, .rv (.own 5)),(4, .box 4 0),(3, .box 3 0),(2, .box 2 0)],gl⟩,[(5,⟨168, .int .u32,out⟩)],[(2, .cells [⟨.bool,a⟩,⟨.slice (.int .u32),a2⟩]),(3, .cells [⟨.bool,b⟩,⟨.slice (.int .u32),b2⟩]),(4, .cells [⟨.bool,t7⟩,⟨.slice (.int .u32),t8⟩])],h0,⟨.unit,()⟩,[],T.sites 110⟩
def oL (s:ByteArray)(sep:ByteArray):Option (ByteArray×ByteArray×Bool):=cP T B lf 111 (s,sep)
def iJ (s:ByteArray)(fa:ByteArray):Option (ByteArray×Bool):=cP T B lf 112 (s,fa)
def iX (neg:Bool)(d:List Int):Option (Bool×(List Int)×Unit):=cP T B lf 113 (neg,d)
def yO (a:List Int)(b:List Int):Option (Int):=cP T B lf 114 (a,b)
def nu (a:List Int)(b:List Int)(i:Int):Option (Int):=
 LL T B lf 114 0 (ms 41 [(5,aS i),(1, .rv (.cv ⟨.slice (.int .u32),b⟩)),(0, .rv (.cv ⟨.slice (.int .u32),a⟩))] [] h0 114)
def EU (x:Int)(y:Int):Option (Int):=cP T B lf 115 (x,y)
def ly (x:Int)(y:Int):Option (Int):=
 LL T B lf 115 0 (ms 12 [(1,aS y),(0,aS x)] [] h0 115)
def EV (d:List Int):Option (Int):=cP T B lf 116 d
def qh (d:List Int)(n:Int)(i:Int):Option (Int):=
 LL T B lf 116 0 (ms 21 [(4,aS i),(3,aS n),(0, .rv (.cv ⟨.slice (.int .u32),d⟩))] [] h0 116)
def xz (a:List Int)(b:List Int):Option ((List Int)×List Int):=cP T B lf 117 (a,b)
def mN (d:List Int):Option (List Int):=cP T B lf 118 d
def nv (d:List Int):Option (List Int):=
 LL T B lf 118 0 (ms 21 [(0, .rv (.cv ⟨.slice (.int .u32),d⟩))] [] h0 118)
def Gs (p:Int):Option (Int×Int):=cP T B lf 119 p
def dY (f:Int)(a:Int):Option (Int):=cP T B lf 120 (f,a)
def jZ (f:Int)(a:Int):Option (Int):=cP T B lf 121 (f,a)
def oM (p:Int)(l:List cQ):Option (Int):=cP T B lf 122 (p,l)
def fg (p:Int)(t:List cQ)(t2:Int)(t3:Int):Option (Int):=
 LL T B lf 122 0 (ms 21 [(10,aS t3),(9,aS t2),(8, .rv (.cv ⟨.slice (.slice (.st yT)),t⟩)),(0,aS p)] [] h0 122)
def tW (p:Int)(a:cQ)(k:Int)(b:cQ):Option cQ:=cP T B lf 123 (p,a,k,b)
def iB (row:cQ)(p:Int)(k:Int)(rest:List (Int×FV×Unit)):Option cQ:=
 LL T B lf 123 0 ⟨⟨36,[(9, .box 9 0),(6, .box 6 0),(4, .box 4 0)],[(10009, .box 9 0),(10006, .box 6 0),(10004, .box 4 0),(1000000000, .oR [⟨.fn,(197:Nat)⟩,⟨.bool,false⟩]),(1000000001, .oR [⟨.fn,(199:Nat)⟩,⟨.bool,true⟩])]⟩,[(9,⟨44, .st yT,row⟩)],[(4, .cells [⟨.int .i64,p⟩]),(6, .cells [⟨.int .i64,k⟩]),(9, .own 9)],h0,⟨.unit,()⟩,[⟨[.int .i64, .st yT],rest⟩],T.sites 123⟩
def oZ (a:List Int)(v:Int):Option (Bool):=cP T B lf 134 (a,v)
def jO (a:List Int)(v:Int)(i:Int):Option (Bool):=
 LL T B lf 134 0 (ms 18 [(5,aS i),(1,aS v),(0, .rv (.cv ⟨.slice (.int .i64),a⟩))] [] h0 134)
def iK (l:List Int):Option ((List Int)×Int):=cP T B lf 135 l
def dM (n:Int)(i:Int)(out:List Int):Option ((List Int)×Int):=
 LL T B lf 135 0 ⟨⟨54,[(6,aS i),(5,aS n),(4, .rv (.own 4))],gl⟩,[(4,⟨3, .int .i64,out⟩)],[],h0,⟨.unit,()⟩,[],T.sites 135⟩
def fx (n:Int)(i:Int)(k:Int)(out:List Int):Option ((List Int)×Int):=
 LL T B lf 135 1 ⟨⟨54,[(7,aS k),(6,aS i),(5,aS n),(4, .rv (.own 4))],gl⟩,[(4,⟨3, .int .i64,out⟩)],[],h0,⟨.unit,()⟩,[],T.sites 135⟩
def jP (s:List Int):Option (List (List Int)):=cP T B lf 136 s
def rF (s:List Int)(m:Int)(out:List (List Int)):Option (List (List Int)):=
 LL T B lf 136 0 ⟨⟨36,[(4,aS m),(3, .rv (.own 3)),(0, .rv (.cv ⟨.slice (.int .i64),s⟩))],gl⟩,[(3,⟨26, .slice (.int .i64),out⟩)],[],h0,⟨.unit,()⟩,[],T.sites 136⟩
def fZ (s:List Int)(m:Int)(i:Int)(out:List (List Int))(f:List Int):Option (List (List Int)):=
 LL T B lf 136 1 ⟨⟨36,[(6,aS i),(5, .rv (.own 5)),(4,aS m),(3, .rv (.own 3)),(0, .rv (.cv ⟨.slice (.int .i64),s⟩))],gl⟩,[(3,⟨26, .slice (.int .i64),out⟩),(5,⟨3, .int .i64,f⟩)],[],h0,⟨.unit,()⟩,[],T.sites 136⟩
def cU (s:List Int)(out:List (List Int))(m:Int):Option (List (List Int)):=
 LL T B lf 136 0 (ms 36 [(4,aS m),(3, .rv (.cv ⟨.slice (.slice (.int .i64)),out⟩)),(0, .rv (.cv ⟨.slice (.int .i64),s⟩))] [] h0 136)
def fy (s:List Int)(out:List (List Int))(m:Int)(i:Int)(f:List Int):Option (List (List Int)):=
 LL T B lf 136 1 ⟨⟨36,[(6,aS i),(5, .rv (.own 5)),(4,aS m),(3, .rv (.cv ⟨.slice (.slice (.int .i64)),out⟩)),(0, .rv (.cv ⟨.slice (.int .i64),s⟩))],gl⟩,[(5,⟨3, .int .i64,f⟩)],[],h0,⟨.unit,()⟩,[],T.sites 136⟩
def eW (l:List (List Int))(s:List Int):Option (List (List Int)):=cP T B lf 137 (l,s)
def iL (l:List (List Int))(s:List Int)(done:Bool)(i:Int)(out:List (List Int)):Option (List (List Int)):=
 LL T B lf 137 0 ⟨⟨48,[(7,aS i),(6, .rv (.cv ⟨.bool,done⟩)),(5, .rv (.own 5)),(1, .rv (.cv ⟨.slice (.int .i64),s⟩)),(0, .rv (.cv ⟨.slice (.slice (.int .i64)),l⟩))],gl⟩,[(5,⟨26, .slice (.int .i64),out⟩)],[],h0,⟨.unit,()⟩,[],T.sites 137⟩
def j0 (n:ByteArray)(d:ByteArray):Option (ByteArray):=cP T B lf 138 (n,d)
def bE (n:Int):Option (ByteArray):=cP T B lf 139 n
def cV (q:Int)(d:List Int):Option (ByteArray):=
 LL T B lf 139 0 ⟨⟨42,[(5, .rv (.own 5)),(3,aS q)],gl⟩,[(5,⟨3, .int .i64,d⟩)],[],h0,⟨.unit,()⟩,[],T.sites 139⟩
def cW (n:Int)(d:List Int):Option (ByteArray):=
 LL T B lf 139 1 ⟨⟨42,[(6, .rv (.own 6)),(0,aS n)],gl⟩,[(6,⟨3, .int .i64,d⟩)],[],h0,⟨.unit,()⟩,[],T.sites 139⟩
def fz (s:List Int):Option (Int):=cP T B lf 140 s
def dk (s:List Int)(i:Int):Option (Int):=
 LL T B lf 140 0 (ms 45 [(3,aS i),(0, .rv (.cv ⟨.slice (.int .i64),s⟩))] [] h0 140)
def dm (s:List Int)(i:Int):Option (Int):=
 LL T B lf 140 1 (ms 45 [(4,aS i),(0, .rv (.cv ⟨.slice (.int .i64),s⟩))] [] h0 140)
def qV (l:List (List Int))(s:List Int):Option (Int):=cP T B lf 141 (l,s)
def ga (l:List (List Int))(s:List Int)(i:Int):Option (Int):=
 LL T B lf 141 0 (ms 20 [(5,aS i),(1, .rv (.cv ⟨.slice (.int .i64),s⟩)),(0, .rv (.cv ⟨.slice (.slice (.int .i64)),l⟩))] [] h0 141)
def pY (l:List ((List Int)×ByteArray×Unit))(kn:H8)(aD:H4):Option ((Nat)×H8×H4):=cP T B lf 142 (l,(kn,aD))
def fA (l:List ((List Int)×ByteArray×Unit))(out:Nat)(i:Int)(aD:H4)(kn:H8):Option ((Nat)×H8×H4):=
 LL T B lf 142 0 (ms 28 [(4,aS i),(3, .rv (.cv ⟨.ref 8,out⟩)),(0, .rv (.cv ⟨.slice (.st (.pair (.slice (.int .i64)) (.pair (.str) (.unit)))),l⟩))] [] (hs [] [] [] [] aD [] [] [] kn []) 142)
def iY (a:ByteArray):Option (Bool):=cP T B lf 143 a
def jQ (a:ByteArray):Option (Bool):=cP T B lf 144 a
def cB (s:ByteArray)(i:Int):Option (Bool):=
 LL T B lf 144 0 (ms 53 [(4,aS i),(3, .rv (.cv ⟨.str,s⟩))] [] h0 144)
def dN (a:ByteArray)(b:ByteArray):Option (ByteArray):=cP T B lf 145 (a,b)
def cp (x:ByteArray)(y:ByteArray):Option (ByteArray):=
 LL T B lf 145 0 (ms 24 [(6, .rv (.cv ⟨.str,y⟩)),(5, .rv (.cv ⟨.str,x⟩))] [] h0 145)
def da (a:List Int)(b:List Int):Option (Int):=cP T B lf 146 (a,b)
def dO (a:List Int)(b:List Int)(i:Int):Option (Int):=
 LL T B lf 146 0 (ms 41 [(5,aS i),(1, .rv (.cv ⟨.slice (.int .i64),b⟩)),(0, .rv (.cv ⟨.slice (.int .i64),a⟩))] [] h0 146)
def dd (a:ByteArray):Option (Int×Bool):=cP T B lf 147 a
def dn (a:ByteArray)(n:Int)(i:Int):Option (Int×Bool):=
 LL T B lf 147 0 (ms 38 [(5,aS i),(4,aS n),(0, .rv (.cv ⟨.str,a⟩))] [] h0 147)
def bf (d:List Int):Option (List Int):=cP T B lf 148 d
def dP (d:List Int):Option (List Int):=
 LL T B lf 148 0 (ms 21 [(0, .rv (.cv ⟨.slice (.int .i64),d⟩))] [] h0 148)
def mO (a:(Bool×(List Int)×Unit)×(Bool×(List Int)×Unit)×Unit):Option (Bool):=cP T B lf 149 a
def iM (s:ByteArray)(substr:ByteArray):Option (Int):=cP T B lf 150 (s,substr)
def gE (s:ByteArray)(fa:ByteArray):Option (ByteArray×Bool):=cP T B lf 151 (s,fa)
def tX (a:List Int)(b:Int):Option ((List Int)×Int):=cP T B lf 152 (a,b)
def lz (a:List Int)(b:Int)(rest:Int)(i:Int)(out:List Int):Option ((List Int)×Int):=
 LL T B lf 152 0 ⟨⟨42,[(8,aS i),(7, .rv (.cv ⟨.int .u64,rest⟩)),(6, .rv (.own 6)),(1, .rv (.cv ⟨.int .u32,b⟩)),(0, .rv (.cv ⟨.slice (.int .u32),a⟩))],gl⟩,[(6,⟨168, .int .u32,out⟩)],[],h0,⟨.unit,()⟩,[],T.sites 152⟩
def EW (a:List Int)(b:List Int):Option ((List Int)×List Int):=cP T B lf 153 (a,b)
def eJ (k:Int)(v:List Int)(n:Int)(j:Int)(q:List Int)(u:List Int):Option ((List Int)×List Int):=
 LL T B lf 153 0 ⟨⟨239,[(10,aS j),(9,aS n),(8, .rv (.cv ⟨.slice (.int .u32),v⟩)),(7, .rv (.own 7)),(6, .rv (.cv ⟨.int .u32,k⟩)),(4, .rv (.own 4))],gl⟩,[(4,⟨168, .int .u32,q⟩),(7,⟨168, .int .u32,u⟩)],[],h0,⟨.unit,()⟩,[],T.sites 153⟩
def jE (k:Int)(v:List Int)(n:Int)(j:Int)(guess:Int)(rest:Int)(q:List Int)(u:List Int):Option ((List Int)×List Int):=
 LL T B lf 153 1 ⟨⟨239,[(13, .rv (.cv ⟨.int .u64,rest⟩)),(12, .rv (.cv ⟨.int .u64,guess⟩)),(10,aS j),(9,aS n),(8, .rv (.cv ⟨.slice (.int .u32),v⟩)),(7, .rv (.own 7)),(6, .rv (.cv ⟨.int .u32,k⟩)),(4, .rv (.own 4))],gl⟩,[(4,⟨168, .int .u32,q⟩),(7,⟨168, .int .u32,u⟩)],[],h0,⟨.unit,()⟩,[],T.sites 153⟩
def gi (k:Int)(v:List Int)(n:Int)(j:Int)(guess:Int)(borrow:Int)(t:Int)(t2:Int)(q:List Int)(u:List Int):Option ((List Int)×List Int):=
 LL T B lf 153 2 ⟨⟨239,[(124,aS t2),(123,aS t),(14,aS borrow),(12, .rv (.cv ⟨.int .u64,guess⟩)),(10,aS j),(9,aS n),(8, .rv (.cv ⟨.slice (.int .u32),v⟩)),(7, .rv (.own 7)),(6, .rv (.cv ⟨.int .u32,k⟩)),(4, .rv (.own 4))],gl⟩,[(4,⟨168, .int .u32,q⟩),(7,⟨168, .int .u32,u⟩)],[],h0,⟨.unit,()⟩,[],T.sites 153⟩
def lA (k:Int)(v:List Int)(n:Int)(j:Int)(guess:Int)(x:Int)(carry:Int)(t:Int)(t2:Int)(q:List Int)(u:List Int):Option ((List Int)×List Int):=
 LL T B lf 153 3 ⟨⟨239,[(189,aS t2),(188,aS t),(18, .rv (.cv ⟨.int .u32,carry⟩)),(17,aS x),(12, .rv (.cv ⟨.int .u64,guess⟩)),(10,aS j),(9,aS n),(8, .rv (.cv ⟨.slice (.int .u32),v⟩)),(7, .rv (.own 7)),(6, .rv (.cv ⟨.int .u32,k⟩)),(4, .rv (.own 4))],gl⟩,[(4,⟨168, .int .u32,q⟩),(7,⟨168, .int .u32,u⟩)],[],h0,⟨.unit,()⟩,[],T.sites 153⟩
def mP (f:Int)(a:Int)(n:Int):Option (Int):=cP T B lf 154 (f,a,n)
def dp (f:Int)(n:Int)(out:Int)(base:Int):Option (Int):=
 LL T B lf 154 0 (ms 30 [(8,aS base),(7,aS out),(2,aS n),(0,aS f)] [] h0 154)
def sx (a:cQ)(b:cQ):Option (cQ×cQ):=cP T B lf 155 (a,b)
def dq (a:ByteArray)(b:ByteArray):Option (ByteArray×ByteArray):=cP T B lf 161 (a,b)
def bj (b:ByteArray)(p:Bool)(x:List Int)(s:Bool)(y:List Int)(r:List Int)(i:Int)(q:List Int):Option (ByteArray×ByteArray):=
 LL T B lf 161 0 ⟨⟨164,[(19,aS i),(18, .rv (.cv ⟨.slice (.int .i64),r⟩)),(17, .rv (.own 17)),(15, .rv (.cv ⟨.slice (.int .i64),y⟩)),(14, .rv (.cv ⟨.bool,s⟩)),(13, .rv (.cv ⟨.slice (.int .i64),x⟩)),(12, .rv (.cv ⟨.bool,p⟩)),(1, .rv (.cv ⟨.str,b⟩))],gl⟩,[(17,⟨3, .int .i64,q⟩)],[],h0,⟨.unit,()⟩,[],T.sites 161⟩
def cg (b:ByteArray)(p:Bool)(x:List Int)(s:Bool)(y:List Int)(r:List Int)(i:Int)(k:Int)(q:List Int):Option (ByteArray×ByteArray):=
 LL T B lf 161 1 ⟨⟨164,[(20,aS k),(19,aS i),(18, .rv (.cv ⟨.slice (.int .i64),r⟩)),(17, .rv (.own 17)),(15, .rv (.cv ⟨.slice (.int .i64),y⟩)),(14, .rv (.cv ⟨.bool,s⟩)),(13, .rv (.cv ⟨.slice (.int .i64),x⟩)),(12, .rv (.cv ⟨.bool,p⟩)),(1, .rv (.cv ⟨.str,b⟩))],gl⟩,[(17,⟨3, .int .i64,q⟩)],[],h0,⟨.unit,()⟩,[],T.sites 161⟩
def aG (b:ByteArray)(p:Bool)(s:Bool)(r:List Int)(i:Int)(q:List Int):Option (ByteArray×ByteArray):=
 LL T B lf 161 2 ⟨⟨164,[(21,aS i),(18, .rv (.cv ⟨.slice (.int .i64),r⟩)),(17, .rv (.own 17)),(14, .rv (.cv ⟨.bool,s⟩)),(12, .rv (.cv ⟨.bool,p⟩)),(1, .rv (.cv ⟨.str,b⟩))],gl⟩,[(17,⟨3, .int .i64,q⟩)],[],h0,⟨.unit,()⟩,[],T.sites 161⟩
def eK (a:ByteArray):Option (Int):=cP T B lf 162 a
def gd (a:ByteArray):Option (ByteArray):=cP T B lf 163 a
def mQ (a:Bool×(List Int)×Unit):Option (Bool):=cP T B lf 164 a
def eO (s:ByteArray)(c:Int):Option (Int):=cP T B lf 165 (s,c)
def gF (s:ByteArray)(fa:ByteArray):Option (Bool):=cP T B lf 169 (s,fa)
def xA (a:List Int)(k:Int):Option (List Int):=cP T B lf 170 (a,k)
def jF (k:Int)(carry:Int)(t:List Int)(t2:Int)(t3:Int)(out:List Int):Option (List Int):=
 LL T B lf 170 0 ⟨⟨40,[(15,aS t3),(14,aS t2),(13, .rv (.cv ⟨.slice (.int .u32),t⟩)),(6, .rv (.cv ⟨.int .u64,carry⟩)),(5, .rv (.own 5)),(1, .rv (.cv ⟨.int .u32,k⟩))],gl⟩,[(5,⟨168, .int .u32,out⟩)],[],h0,⟨.unit,()⟩,[],T.sites 170⟩
def oN (t:cQ)(t2:cQ):Option (List (Int×FV×Unit)):=cP T B lf 171 ((),t,t2)
def dQ (t:cQ)(t2:cQ)(trace:List (Int×FV×Unit)):Option (List (Int×FV×Unit)):=
 LL T B lf 171 0 ⟨⟨94,[(2, .box 2 0),(1, .box 1 0),(0, .K4)],gl⟩,[],[(1, .cells [⟨.slice (.st yT),t⟩]),(2, .cells [⟨.slice (.st yT),t2⟩])],h0,⟨.slice (.pair (.int .i64) (.pair (.st yT) (.unit))),trace⟩,[],T.sites 171⟩
def aW (a:List Int)(b:List Int):Option (List Int):=cP T B lf 173 (a,b)
def bA (a:List Int)(b:List Int)(borrow:Int)(i:Int)(out:List Int):Option (List Int):=
 LL T B lf 173 0 ⟨⟨41,[(7,aS i),(6,aS borrow),(5, .rv (.own 5)),(1, .rv (.cv ⟨.slice (.int .i64),b⟩)),(0, .rv (.cv ⟨.slice (.int .i64),a⟩))],gl⟩,[(5,⟨3, .int .i64,out⟩)],[],h0,⟨.unit,()⟩,[],T.sites 173⟩
def jR (a:ByteArray)(b:ByteArray):Option (ByteArray):=cP T B lf 174 (a,b)
def gj (a:ByteArray)(b:ByteArray):Option (ByteArray):=cP T B lf 175 (a,b)
def gT (a:Bool×(List Int)×Unit):Option (Int):=cP T B lf 176 a
def dr (n:Int)(x:Int):Option (Int):=
 LL T B lf 176 0 (ms 29 [(4, .rv (.cv ⟨.int .u32,x⟩)),(3,aS n)] [] h0 176)
def iC (a:List Int)(b:List Int):Option (List Int):=cP T B lf 179 (a,b)
def eL (a:List Int)(b:List Int)(carry:Int)(i:Int)(out:List Int):Option (List Int):=
 LL T B lf 179 0 ⟨⟨54,[(7,aS i),(6,aS carry),(5, .rv (.own 5)),(1, .rv (.cv ⟨.slice (.int .i64),b⟩)),(0, .rv (.cv ⟨.slice (.int .i64),a⟩))],gl⟩,[(5,⟨3, .int .i64,out⟩)],[],h0,⟨.unit,()⟩,[],T.sites 179⟩
def oO (c:mj):Option mj:=cP T B lf 196 c
def lB (t:mj):Option (List (Int×Unit)):=cP T B lf 197 ((),t)
def cX (t:Int)(t2:Int)(trace:List (Int×Unit)):Option (List (Int×Unit)):=
 LL T B lf 197 0 ⟨⟨15,[(7,aS t2),(6,aS t),(0, .K4)],gl⟩,[],[],h0,⟨.slice (.pair (.int .i64) (.unit)),trace⟩,[],T.sites 197⟩
def mR (c:mj):Option mj:=cP T B lf 198 c
def j5 (t:mj):Option (List (Int×Unit)):=cP T B lf 199 ((),t)
def dv (d:Int)(t:Int)(t2:xx)(trace:List (Int×Unit)):Option (List (Int×Unit)):=
 LL T B lf 199 0 ⟨⟨29,[(3,aS d),(1, .box 1 0),(0, .K4)],gl⟩,[],[(1, .cells [⟨.int .i64,t⟩,⟨.slice (.st yC),t2⟩])],h0,⟨.slice (.pair (.int .i64) (.unit)),trace⟩,[],T.sites 199⟩
def dw (d:Int)(t:xx)(t2:Int)(t3:Int)(t4:Int)(t5:xx)(trace:List (Int×Unit)):Option (List (Int×Unit)):=
 LL T B lf 199 1 ⟨⟨29,[(13,aS t3),(12,aS t2),(11, .rv (.cv ⟨.slice (.st yC),t⟩)),(3,aS d),(1, .box 1 0),(0, .K4)],gl⟩,[],[(1, .cells [⟨.int .i64,t4⟩,⟨.slice (.st yC),t5⟩])],h0,⟨.slice (.pair (.int .i64) (.unit)),trace⟩,[],T.sites 199⟩
def lV (c:mj)(c5:H2):Option ((Nat×FV×Int)×H2):=cP T B lf 100045 ((c,(),()),c5)
def qi (c:mj)(c5:H2):Option ((Nat×FV×Int)×H2):=cP T B lf 100145 ((c,(),()),c5)
def gf (c:mj)(c5:H2):Option ((Nat×Int×Int×Unit)×H2):=cP T B lf 100046 (((),c),c5)
def ch (out:Nat)(t:Int)(t2:Int)(row:H2)(bK:List Int)(e:Bool)(c:Int)(c2:xx)(w:Int)(w2:Int)(c5:H2):Option ((Nat×Int×Int×Unit)×H2):=
 LL T B lf 100046 0 ⟨⟨155,[(28,aS t2),(27,aS t),(8, .box 8 0),(7, .box 7 0),(5, .box 5 0),(4, .rv (.cv ⟨.ref 3,out⟩)),(3, .box 3 0),(2, .box 2 0)],gl⟩,[(7,⟨40, .o6 (.st yT),row⟩),(8,⟨3, .int .i64,bK⟩)],[(2, .cells [⟨.fn,(197:Nat)⟩,⟨.bool,e⟩]),(3, .cells [⟨.int .i64,c⟩,⟨.slice (.st yC),c2⟩]),(5, .cells [⟨.int .i64,w⟩,⟨.int .i64,w2⟩]),(7, .own 7),(8, .own 8)],(hs [] [] [] c5 [] [] [] [] [] []),⟨.unit,()⟩,[],T.sites 100046⟩
def ak (out:Nat)(ai:Nat)(row:H2)(bK:List Int)(e:Bool)(c:Int)(c2:xx)(w:Int)(w2:Int)(c5:H2)(rest:List (Int×Unit)):Option ((Nat×Int×Int×Unit)×H2):=
 LL T B lf 100046 1 ⟨⟨155,[(8, .box 8 0),(7, .box 7 0),(5, .box 5 0),(4, .rv (.cv ⟨.ref 3,out⟩)),(3, .box 3 0),(2, .box 2 0)],[(10008, .box 8 0),(10007, .box 7 0),(10005, .box 5 0),(10004, .rv (.cv ⟨.ref 3,ai⟩)),(10003, .box 3 0),(10002, .box 2 0),(1000000000, .oR [⟨.fn,(197:Nat)⟩,⟨.bool,false⟩]),(1000000001, .oR [⟨.fn,(199:Nat)⟩,⟨.bool,true⟩])]⟩,[(7,⟨40, .o6 (.st yT),row⟩),(8,⟨3, .int .i64,bK⟩)],[(2, .cells [⟨.fn,(197:Nat)⟩,⟨.bool,e⟩]),(3, .cells [⟨.int .i64,c⟩,⟨.slice (.st yC),c2⟩]),(5, .cells [⟨.int .i64,w⟩,⟨.int .i64,w2⟩]),(7, .own 7),(8, .own 8)],(hs [] [] [] c5 [] [] [] [] [] []),⟨.unit,()⟩,[⟨[.int .i64],rest⟩],T.sites 100046⟩
def bk (out:Nat)(t:Int)(t2:Int)(t3:List Int)(w:Int)(w2:Int)(c5:H2):Option ((Nat×Int×Int×Unit)×H2):=
 LL T B lf 100046 3 ⟨⟨155,[(139,aS t2),(138,aS t),(137, .rv (.own 8)),(5, .box 5 0),(4, .rv (.cv ⟨.ref 3,out⟩))],gl⟩,[(8,⟨3, .int .i64,t3⟩)],[(5, .cells [⟨.int .i64,w⟩,⟨.int .i64,w2⟩])],(hs [] [] [] c5 [] [] [] [] [] []),⟨.unit,()⟩,[],T.sites 100046⟩
def bw (j:Int)(x:cQ)(low:Int)(Zc:Bool)(out:Nat)(row:H2)(bK:List Int)(e:Bool)(c:Int)(c2:xx)(w:Int)(w2:Int)(c5:H2)(rest:List (Int×Unit)):Option ((Nat×Int×Int×Unit)×H2):=
 LL T B lf 100046 2 ⟨⟨155,[(13, .rv (.cv ⟨.bool,Zc⟩)),(12,aS low),(11, .rv (.cv ⟨.slice (.st yT),x⟩)),(10,aS j),(8, .box 8 0),(7, .box 7 0),(5, .box 5 0),(3, .box 3 0)],[(10008, .box 8 0),(10007, .box 7 0),(10005, .box 5 0),(10004, .rv (.cv ⟨.ref 3,out⟩)),(10003, .box 3 0),(10002, .box 2 0),(1000000000, .oR [⟨.fn,(197:Nat)⟩,⟨.bool,false⟩]),(1000000001, .oR [⟨.fn,(199:Nat)⟩,⟨.bool,true⟩])]⟩,[(7,⟨40, .o6 (.st yT),row⟩),(8,⟨3, .int .i64,bK⟩)],[(2, .cells [⟨.fn,(197:Nat)⟩,⟨.bool,e⟩]),(3, .cells [⟨.int .i64,c⟩,⟨.slice (.st yC),c2⟩]),(5, .cells [⟨.int .i64,w⟩,⟨.int .i64,w2⟩]),(7, .own 7),(8, .own 8)],(hs [] [] [] c5 [] [] [] [] [] []),⟨.unit,()⟩,[⟨[.int .i64],rest⟩],T.sites 100046⟩
def dR (c:mj)(c5:H2):Option ((Nat×Int×Int×Unit)×H2):=cP T B lf 100146 (((),c),c5)
def cI (out:Nat)(t:Int)(t2:Int)(row:H2)(bK:List Int)(e:Bool)(c:Int)(c2:xx)(w:Int)(w2:Int)(c5:H2):Option ((Nat×Int×Int×Unit)×H2):=
 LL T B lf 100146 0 ⟨⟨155,[(28,aS t2),(27,aS t),(8, .box 8 0),(7, .box 7 0),(5, .box 5 0),(4, .rv (.cv ⟨.ref 3,out⟩)),(3, .box 3 0),(2, .box 2 0)],gl⟩,[(7,⟨40, .o6 (.st yT),row⟩),(8,⟨3, .int .i64,bK⟩)],[(2, .cells [⟨.fn,(199:Nat)⟩,⟨.bool,e⟩]),(3, .cells [⟨.int .i64,c⟩,⟨.slice (.st yC),c2⟩]),(5, .cells [⟨.int .i64,w⟩,⟨.int .i64,w2⟩]),(7, .own 7),(8, .own 8)],(hs [] [] [] c5 [] [] [] [] [] []),⟨.unit,()⟩,[],T.sites 100146⟩
def bp (out:Nat)(ai:Nat)(row:H2)(bK:List Int)(e:Bool)(c:Int)(c2:xx)(w:Int)(w2:Int)(c5:H2)(rest:List (Int×Unit)):Option ((Nat×Int×Int×Unit)×H2):=
 LL T B lf 100146 1 ⟨⟨155,[(8, .box 8 0),(7, .box 7 0),(5, .box 5 0),(4, .rv (.cv ⟨.ref 3,out⟩)),(3, .box 3 0),(2, .box 2 0)],[(10008, .box 8 0),(10007, .box 7 0),(10005, .box 5 0),(10004, .rv (.cv ⟨.ref 3,ai⟩)),(10003, .box 3 0),(10002, .box 2 0),(1000000000, .oR [⟨.fn,(197:Nat)⟩,⟨.bool,false⟩]),(1000000001, .oR [⟨.fn,(199:Nat)⟩,⟨.bool,true⟩])]⟩,[(7,⟨40, .o6 (.st yT),row⟩),(8,⟨3, .int .i64,bK⟩)],[(2, .cells [⟨.fn,(199:Nat)⟩,⟨.bool,e⟩]),(3, .cells [⟨.int .i64,c⟩,⟨.slice (.st yC),c2⟩]),(5, .cells [⟨.int .i64,w⟩,⟨.int .i64,w2⟩]),(7, .own 7),(8, .own 8)],(hs [] [] [] c5 [] [] [] [] [] []),⟨.unit,()⟩,[⟨[.int .i64],rest⟩],T.sites 100146⟩
def cJ (out:Nat)(t:Int)(t2:Int)(t3:List Int)(w:Int)(w2:Int)(c5:H2):Option ((Nat×Int×Int×Unit)×H2):=
 LL T B lf 100146 3 ⟨⟨155,[(139,aS t2),(138,aS t),(137, .rv (.own 8)),(5, .box 5 0),(4, .rv (.cv ⟨.ref 3,out⟩))],gl⟩,[(8,⟨3, .int .i64,t3⟩)],[(5, .cells [⟨.int .i64,w⟩,⟨.int .i64,w2⟩])],(hs [] [] [] c5 [] [] [] [] [] []),⟨.unit,()⟩,[],T.sites 100146⟩
def cK (j:Int)(x:cQ)(low:Int)(Zc:Bool)(out:Nat)(row:H2)(bK:List Int)(e:Bool)(c:Int)(c2:xx)(w:Int)(w2:Int)(c5:H2)(rest:List (Int×Unit)):Option ((Nat×Int×Int×Unit)×H2):=
 LL T B lf 100146 2 ⟨⟨155,[(13, .rv (.cv ⟨.bool,Zc⟩)),(12,aS low),(11, .rv (.cv ⟨.slice (.st yT),x⟩)),(10,aS j),(8, .box 8 0),(7, .box 7 0),(5, .box 5 0),(3, .box 3 0)],[(10008, .box 8 0),(10007, .box 7 0),(10005, .box 5 0),(10004, .rv (.cv ⟨.ref 3,out⟩)),(10003, .box 3 0),(10002, .box 2 0),(1000000000, .oR [⟨.fn,(197:Nat)⟩,⟨.bool,false⟩]),(1000000001, .oR [⟨.fn,(199:Nat)⟩,⟨.bool,true⟩])]⟩,[(7,⟨40, .o6 (.st yT),row⟩),(8,⟨3, .int .i64,bK⟩)],[(2, .cells [⟨.fn,(199:Nat)⟩,⟨.bool,e⟩]),(3, .cells [⟨.int .i64,c⟩,⟨.slice (.st yC),c2⟩]),(5, .cells [⟨.int .i64,w⟩,⟨.int .i64,w2⟩]),(7, .own 7),(8, .own 8)],(hs [] [] [] c5 [] [] [] [] [] []),⟨.unit,()⟩,[⟨[.int .i64],rest⟩],T.sites 100146⟩
def ko (x:cQ)(n:Int)(aD:H4):Option ((Nat)×H4):=cP T B lf 102038 ((x,n),aD)
def de (x:cQ)(out:Nat)(i:Int)(aD:H4):Option ((Nat)×H4):=
 LL T B lf 102038 0 (ms 28 [(6,aS i),(5, .rv (.cv ⟨.ref 4,out⟩)),(0, .rv (.cv ⟨.slice (.st yT),x⟩))] [] (hs [] [] [] [] aD [] [] [] [] []) 102038)
def aR (v:Nat)(aD:H4):Option cQ:=cP T B lf 100040 (v,aD)
def bN (v:Nat)(i:Int)(out:cQ)(aD:H4):Option cQ:=
 LL T B lf 100040 0 ⟨⟨26,[(4,aS i),(3, .rv (.own 3)),(0, .rv (.cv ⟨.ref 4,v⟩))],gl⟩,[(3,⟨44, .st yT,out⟩)],[],[⟨42, .st yC,0,true,([]:H0)⟩,⟨42, .st yR,0,true,([]:H1)⟩,⟨44, .st yT,0,true,([]:H2)⟩,⟨58, .st yT,0,true,([]:H2)⟩,⟨3, .int .i64,0,false,aD⟩,⟨95, .st (.pair yH (.pair (.ref 6) (.pair (.ref 4) (.pair (.ref 7) yT)))),1,true,([]:List (Option (List (mj×Nat×Nat×Nat×Int×Int×Unit))))⟩,⟨26, .o6 (.int .i64),0,true,([]:List (Option H4))⟩,⟨4, .bool,0,true,([]:H7)⟩,⟨101, .st (.pair (.ref 4) (.pair (.str) (.unit))),0,true,([]:H8)⟩,⟨24, .st (.pair (.int .i64) (.pair (.slice (.st yC)) (.unit))),0,true,([]:H9)⟩],⟨.unit,()⟩,[],T.sites 100040⟩
def ef (s:cQ)(f:Int):Option (Bool):=cP T B lf 100070 (s,f)
def eg (s:cQ)(f:mj×zqC):Option (Bool):=cP T B lf 100071 (s,f)
def iD (s:cQ)(f:Int):Option (Int):=cP T B lf 100109 (s,f)
def bO (s:cQ)(f:Int)(t:Int)(t2:Int):Option (Int):=
 LL T B lf 100109 0 (ms 19 [(8,aS t2),(7,aS t),(1, .fn 71 [.oR [⟨.int .i64,f⟩]]),(0, .rv (.cv ⟨.slice (.st yT),s⟩))] [] h0 100109)
def iE (s:cQ)(f:mj×zqC):Option (Int):=cP T B lf 100110 (s,f)
def bP (s:cQ)(f:Int)(f2:xx)(f3:Int)(f4:ByteArray)(f5:cQ)(t:Int)(t2:Int):Option (Int):=
 LL T B lf 100110 0 (ms 19 [(8,aS t2),(7,aS t),(1, .fn 72 [.oR [⟨.int .i64,f⟩,⟨.slice (.st yC),f2⟩], .oR [⟨.int .i64,f3⟩,⟨.str,f4⟩,⟨.slice (.st yT),f5⟩]]),(0, .rv (.cv ⟨.slice (.st yT),s⟩))] [] h0 100110)
end
end Go.Proofs.YtofjebmoebhiiaaGreatDoor.Ev
namespace Go.Proofs.YtofjebmoebhiiaaGreatDoor.Ev
open Go.Abs
noncomputable section
def qW (qX:af dJ)(sy:af gg)(Uk:af tS)(Bs:af lr)(D9:af ef)(Ea:af eg)(Ul:af tT)(QY:af oU)(t:xx)(t2:Int)(t3:Int)(c:Int)(c2:xx)(last:Bool)(Vw:List Int)(Vx:Bool)(Vy:List Int):Option (Int):=
 bif (decide (t3<t2)) then
  (idx t t3).bind fun v0=>
  (sy v0.2.1).bind fun r1=>
  bif (decide (v0.1<0)) then
   some 1
  else
   bif (decide (v0.1>4)) then
    some 1
   else
    bif (!r1.2) then
     some 1
    else
     (Uk v0.2.1).bind fun r2=>
     bif (!r2) then
      some 1
     else
      (Bs c v0.2.2.1).bind fun r3=>
      bif (r3 != 0) then
       some r3
      else
       (D9 v0.2.2.1 t3).bind fun r4=>
       bif r4 then
        some 7
       else
        (Ea v0.2.2.1 ((c,(c2,())),(v0.1,(v0.2.1,(v0.2.2.1,()))))).bind fun r5=>
        bif r5 then
         some 10
        else
         (Ul (c,(c2,())) v0.2.2.1).bind fun r6=>
         bif (decide ((r6.length:Int)>0)) then
          some 11
         else
          bif (decide (t3>0)) then
           (QY ((r1.1.1.1,(r1.1.1.2.1,())),((r1.1.2.1.1,(r1.1.2.1.2.1,())),())) ((last,(Vw,())),((Vx,(Vy,())),()))).bind fun r7=>
           bif (decide (r7<0)) then
            some 6
           else
            qX t t2 (IntKind.wrap .i64 (t3+1)) c c2 r1.1.1.1 r1.1.1.2.1 r1.1.2.1.1 r1.1.2.1.2.1
          else
           qX t t2 (IntKind.wrap .i64 (t3+1)) c c2 r1.1.1.1 r1.1.1.2.1 r1.1.2.1.1 r1.1.2.1.2.1
 else
  some 0
theorem u7 (t t2 t3 c c2 last Vw Vx Vy):dJ t t2 t3 c c2 last Vw Vx Vy=qW dJ gg tS lr ef eg tT oU t t2 t3 c c2 last Vw Vx Vy:=(l1 41 0 _).trans (by kernel_rfl)
def Eb (qX:af dJ)(u9:af lU)(c:mj):Option (Int):=
 (u9 c.1).bind fun r0=>
 bif (!r0) then
  some 8
 else
  bif (decide ((c.2.1.length:Int)>1024)) then
   some 3
  else
   qX c.2.1 (c.2.1.length:Int) 0 c.1 c.2.1 false ([]:List Int) false ([]:List Int)
theorem IJ (c):jA c=Eb dJ lU c:=(e1 41 _).trans (by kernel_rfl)
def zw (t:Int×Int×Unit)(t2:Int):Option (Bool):=
 some (decide (t.1≥t2))
theorem EX (t t2):sr t t2=zw t t2:=(e1 71 _).trans (by kernel_rfl)
def zx (t:Int×Int×Unit)(t2:mj)(t3:zqC):Option (Bool):=
 (idx t2.2.1 t.1).bind fun v0=>
 some (v0.1 != (IntKind.wrap .i64 (t3.1 - 1)))
theorem EY (t t2 t3):su t t2 t3=zx t t2 t3:=(e1 72 _).trans (by kernel_rfl)
def xB (va:af eZ)(nD:af iW)(t:cQ)(t2:Int)(t3:Int)(out:cQ)(c:Int)(c2:xx):Option cQ:=
 bif (decide (t3<t2)) then
  (idx t t3).bind fun v0=>
  (idx c2 v0.1).bind fun v1=>
  (nD c out v0.2.1 v1.2.2.1).bind fun r2=>
  va r2.1 t t2 (IntKind.wrap .i64 (t3+1)) c c2
 else
  some out
theorem Dk (t t2 t3 out c c2):mL t t2 t3 out c c2=xB eZ iW t t2 t3 out c c2:=(l1 73 0 _).trans (by kernel_rfl)
def lC (va:af eZ)(nD:af iW)(out:cQ)(t:cQ)(t2:Int)(t3:Int)(c:Int)(c2:xx):Option cQ:=
 bif (decide (t3<t2)) then
  (idx t t3).bind fun v0=>
  (idx c2 v0.1).bind fun v1=>
  (nD c out v0.2.1 v1.2.2.1).bind fun r2=>
  va r2.1 t t2 (IntKind.wrap .i64 (t3+1)) c c2
 else
  some out
theorem nE (out t t2 t3 c c2):eZ out t t2 t3 c c2=lC eZ iW out t t2 t3 c c2:=(l1 73 0 _).trans (by kernel_rfl)
def Ec (Pg:af mL)(c:mj)(x:cQ):Option cQ:=
 Pg x (x.length:Int) 0 ([]:cQ) c.1 c.2.1
theorem IK (c x):tT c x=Ec mL c x:=(e1 73 _).trans (by kernel_rfl)
end
end Go.Proofs.YtofjebmoebhiiaaGreatDoor.Ev
namespace Go.Proofs.YtofjebmoebhiiaaGreatDoor.Ev
open Go.Abs
noncomputable section
def sV (zy:af jy)(zA:af gY)(sy:af gg)(QZ:af oT)(Ph:af mK)(last:Int)(t:Int)(t2:Int)(c:Int)(c2:xx)(t3:Int)(t4:Nat)(out:Int)(ai:Nat)(hp1:H1):Option (mj×Int):=
 bif (decide (t2<t)) then
  (idx c2 (IntKind.wrap .i64 (last - t2))).bind fun v0=>
  (sy v0.2.1).bind fun r1=>
  (QZ ((r1.1.1.1,(r1.1.1.2.1,())),((r1.1.2.1.1,(r1.1.2.1.2.1,())),()))).bind fun r2=>
  (Ph ((r2.1.1,(r2.1.2.1,())),((r2.2.1.1,(r2.2.1.2.1,())),()))).bind fun r3=>
  (ag hp1 ai).bind fun v4=>
  (idx v4 t2).bind fun _=>
  (ag hp1 ai).bind fun v5=>
  (v5[t2.toNat]?).bind fun v6=>
  let e7:H1:=(jg hp1 ai (v5.set t2.toNat ((IntKind.wrap .i64 (4 - v0.1)),(v6.2.1,(v6.2.2.1,())))))
  (ag e7 ai).bind fun v8=>
  (idx v8 t2).bind fun _=>
  (ag e7 ai).bind fun v9=>
  (v9[t2.toNat]?).bind fun v10=>
  let Uh:H1:=(jg e7 ai (v9.set t2.toNat (v10.1,(r3,(v10.2.2.1,())))))
  zy last t (IntKind.wrap .i64 (t2+1)) c c2 t3 t4 out ai Uh
 else
  zA last last c c2 t3 t4 out ai hp1
theorem xC (last t t2 c c2 t3 t4 out ai hp1):jy last t t2 c c2 t3 t4 out ai hp1=sV jy gY gg oT mK last t t2 c c2 t3 t4 out ai hp1:=(l1 18 0 _).trans (by kernel_rfl)
def Ha (Q0:af sq)(last:Int)(k:Int)(c:Int)(c2:xx)(t:Int)(t2:Nat)(out:Int)(ai:Nat)(hp1:H1):Option (mj×Int):=
 bif (decide (k≥0)) then
  (idx c2 k).bind fun v0=>
  Q0 last k v0.2.2.1 (v0.2.2.1.length:Int) 0 c c2 t t2 out ai hp1
 else
  (Pf (typed (hs [] hp1 [] [] [] [] [] [] [] []) yH (.rv (.agg [⟨.int .i64,out⟩,⟨.ref 1,ai⟩]))) (some 0)).bind fun v1=>
  some v1
theorem Pj (last k c c2 t t2 out ai hp1):gY last k c c2 t t2 out ai hp1=Ha sq last k c c2 t t2 out ai hp1:=(l1 18 1 _).trans (by kernel_rfl)
def Hb (mS:af eV)(zA:af gY)(last:Int)(k:Int)(t:cQ)(t2:Int)(t3:Int)(c:Int)(c2:xx)(t4:Int)(t5:Nat)(out:Int)(ai:Nat)(hp1:H1):Option (mj×Int):=
 bif (decide (t3<t2)) then
  (idx t t3).bind fun v0=>
  (ag hp1 ai).bind fun v1=>
  (idx v1 (IntKind.wrap .i64 (last - v0.1))).bind fun _=>
  (ag hp1 ai).bind fun v2=>
  (v2[(IntKind.wrap .i64 (last - v0.1)).toNat]?).bind fun v3=>
  let e4:cQ:=([((IntKind.wrap .i64 (last - k)),(v0.2.1,()))]:cQ)
  (ag ([]:H2) v3.2.2.1).bind fun v5=>
  bif (aE 16 2 v5.length 1) then
  let e6:H2:=((dA ([]:H2) v3.2.2.1)++[some (v5++e4)])
  let e7:Nat:=((dA ([]:H2) v3.2.2.1).length+1:Nat)
  (ag hp1 ai).bind fun v8=>
  (v8[(IntKind.wrap .i64 (last - v0.1)).toNat]?).bind fun v9=>
  let Y0:H1:=(jg hp1 ai (v8.set (IntKind.wrap .i64 (last - v0.1)).toNat (v9.1,(v9.2.1,(e7,())))))
  mS last k t t2 (IntKind.wrap .i64 (t3+1)) c c2 t4 t5 out ai Y0 e6
  else none
 else
  zA last (IntKind.wrap .i64 (k - 1)) c c2 t4 t5 out ai hp1
theorem Pk (last k t t2 t3 c c2 t4 t5 out ai hp1):sq last k t t2 t3 c c2 t4 t5 out ai hp1=Hb eV gY last k t t2 t3 c c2 t4 t5 out ai hp1:=(l1 18 2 _).trans (by kernel_rfl)
def qY (mS:af eV)(Pl:af iy)(last:Int)(k:Int)(t:cQ)(t2:Int)(t3:Int)(c:Int)(c2:xx)(t4:Int)(t5:Nat)(out:Int)(ai:Nat)(hp1:H1)(hp2:H2):Option (mj×Int):=
 bif (decide (t3<t2)) then
  (idx t t3).bind fun v0=>
  (ag hp1 ai).bind fun v1=>
  (idx v1 (IntKind.wrap .i64 (last - v0.1))).bind fun _=>
  (ag hp1 ai).bind fun v2=>
  (v2[(IntKind.wrap .i64 (last - v0.1)).toNat]?).bind fun v3=>
  let e4:cQ:=([((IntKind.wrap .i64 (last - k)),(v0.2.1,()))]:cQ)
  (ag hp2 v3.2.2.1).bind fun v5=>
  bif (aE 16 2 v5.length 1) then
  (ag hp1 ai).bind fun v6=>
  (v6[(IntKind.wrap .i64 (last - v0.1)).toNat]?).bind fun v7=>
  let e8:H1:=(jg hp1 ai (v6.set (IntKind.wrap .i64 (last - v0.1)).toNat (v7.1,(v7.2.1,(((dA hp2 v3.2.2.1).length+1:Nat),())))))
  mS last k t t2 (IntKind.wrap .i64 (t3+1)) c c2 t4 t5 out ai e8 ((dA hp2 v3.2.2.1)++[some (v5++e4)])
  else none
 else
  Pl last (IntKind.wrap .i64 (k - 1)) c c2 t4 t5 out ai hp1 hp2
theorem vb (last k t t2 t3 c c2 t4 t5 out ai hp1 hp2):eV last k t t2 t3 c c2 t4 t5 out ai hp1 hp2=qY eV iy last k t t2 t3 c c2 t4 t5 out ai hp1 hp2:=(l1 18 2 _).trans (by kernel_rfl)
def qZ (mS:af eV)(last:Int)(k:Int)(c:Int)(c2:xx)(t:Int)(t2:Nat)(out:Int)(ai:Nat)(hp1:H1)(hp2:H2):Option (mj×Int):=
 bif (decide (k≥0)) then
  (idx c2 k).bind fun v0=>
  mS last k v0.2.2.1 (v0.2.2.1.length:Int) 0 c c2 t t2 out ai hp1 hp2
 else
  (Pf (typed (hs [] hp1 hp2 [] [] [] [] [] [] []) yH (.rv (.agg [⟨.int .i64,out⟩,⟨.ref 1,ai⟩]))) (some 0)).bind fun v1=>
  some v1
theorem vc (last k c c2 t t2 out ai hp1 hp2):iy last k c c2 t t2 out ai hp1 hp2=qZ eV last k c c2 t t2 out ai hp1 hp2:=(l1 18 1 _).trans (by kernel_rfl)
def Gt (zy:af jy)(sA:af jA)(c:mj):Option (mj×Int):=
 (sA (c.1,(c.2.1,()))).bind fun r0=>
 bif (r0 != 0) then
  (Pf (typed h0 yH (.rv (.agg [⟨.int .i64,(0:Int)⟩,⟨.ref 0,(0:Nat)⟩]))) (some r0)).bind fun v1=>
  some v1
 else
  let e2:Int:=(IntKind.wrap .i64 ((c.2.1.length:Int) - 1))
  bif (iS 48 (c.2.1.length:Int) (c.2.1.length:Int)) then
  let e3:H1:=(([]:H1)++[some (List.replicate (c.2.1.length:Int).toNat (0,(ByteArray.empty,((0:Nat),()))))])
  let e4:Nat:=(([]:H1).length+1:Nat)
  (ag e3 e4).bind fun v5=>
  zy e2 (v5.length:Int) 0 c.1 c.2.1 0 (0:Nat) c.1 e4 e3
  else none
theorem Lh (c):lT c=Gt jy jA c:=(e1 18 _).trans (by kernel_rfl)
def xD (Q1:af lV)(c:mj):Option (cQ×FV×Int):=
 (Q1 (c.1,(c.2.1,())) ([]:H2)).bind fun r0=>
 (Pf (typed (hs [] [] [] r0.2 [] [] [] [] [] []) (.slice (.st yT)) (.rv (.cv ⟨.ref 3,r0.1.1⟩))) (Pf (some (r0.1.2.1.1,(r0.1.2.1.2.1,()))) (some r0.1.2.2))).bind fun v1=>
 some v1
theorem Dl (c):fJ c=xD lV c:=(e1 20 _).trans (by kernel_rfl)
def Li (Pm:af qi)(c:mj):Option (cQ×FV×Int):=
 (Pm (c.1,(c.2.1,())) ([]:H2)).bind fun r0=>
 (Pf (typed (hs [] [] [] r0.2 [] [] [] [] [] []) (.slice (.st yT)) (.rv (.cv ⟨.ref 3,r0.1.1⟩))) (Pf (some (r0.1.2.1.1,(r0.1.2.1.2.1,()))) (some r0.1.2.2))).bind fun v1=>
 some v1
theorem S2 (c):yM c=Li qi c:=(e1 24 _).trans (by kernel_rfl)
def wK (kp:af eB)(NH:af slices_SortFunc)(l:Nat)(last:Int)(t:Nat)(t2:Int)(t3:Int)(t4:Int)(t5:Int)(w:Int)(w2:Int)(c5:H2):Option (cQ×FV×Int):=
 bif (decide (t3<t2)) then
  (ag c5 t).bind fun v0=>
  (idx v0 t3).bind fun _=>
  (ag c5 t).bind fun v1=>
  (v1[t3.toNat]?).bind fun v2=>
  (ag c5 l).bind fun v3=>
  (idx v3 t3).bind fun _=>
  (ag c5 l).bind fun v4=>
  (v4[t3.toNat]?).bind fun v5=>
  let e6:H2:=(jg c5 l (v4.set t3.toNat ((IntKind.wrap .i64 (last - v2.2.1)),((IntKind.wrap .i64 (last - v2.1)),()))))
  bif (decide (v2.2.1<0)) then
   (ag e6 l).bind fun v7=>
   (idx v7 t3).bind fun _=>
   (ag e6 l).bind fun v8=>
   (v8[t3.toNat]?).bind fun v9=>
   let Y0:H2:=(jg e6 l (v8.set t3.toNat ((IntKind.wrap .i64 (last - v2.1)),((-1),()))))
   kp l last t t2 (IntKind.wrap .i64 (t3+1)) t4 t5 w w2 Y0
  else
   kp l last t t2 (IntKind.wrap .i64 (t3+1)) t4 t5 w w2 e6
 else
  (NH l c5).bind fun r11=>
  (Pf (typed (hs [] [] [] r11.2 [] [] [] [] [] []) (.slice (.st yT)) (.rv (.cv ⟨.ref 3,l⟩))) (Pf (some (w,(w2,()))) (some 0))).bind fun v12=>
  some v12
theorem Gu (l last t t2 t3 t4 t5 w w2 c5):eB l last t t2 t3 t4 t5 w w2 c5=wK eB slices_SortFunc l last t t2 t3 t4 t5 w w2 c5:=(l1 26 0 _).trans (by kernel_rfl)
def Bt (kp:af eB)(vd:af lT)(nF:af dR)(c:mj):Option (cQ×FV×Int):=
 (vd (c.1,(c.2.1,()))).bind fun r0=>
 bif (r0.2 != 0) then
  some (([]:cQ),(0,(0,())),r0.2)
 else
  (nF (r0.1.1,(r0.1.2.1,())) ([]:H2)).bind fun r1=>
  let e2:Int:=(IntKind.wrap .i64 ((c.2.1.length:Int) - 1))
  (ag r1.2 r1.1.1).bind fun v3=>
  kp r1.1.1 e2 r1.1.1 (v3.length:Int) 0 0 0 r1.1.2.1 r1.1.2.2.1 r1.2
theorem Kp (c):mJ c=Bt eB lT dR c:=(e1 26 _).trans (by kernel_rfl)
def ve (c:mj):Option mj:=
 some (c.1,(c.2.1,()))
theorem Bu (c):oO c=ve c:=(e1 196 _).trans (by kernel_rfl)
def ji (nG:af cX)(t:Int)(t2:Int)(trace:List (Int×Unit)):Option (List (Int×Unit)):=
 bif (decide (t2<t)) then
  nG t (IntKind.wrap .i64 (t2+1)) (trace++[(t2,())])
 else
  some trace
theorem mT (t t2 trace):cX t t2 trace=ji cX t t2 trace:=(l1 197 0 _).trans (by kernel_rfl)
def rG (nG:af cX)(t:mj):Option (List (Int×Unit)):=
 nG (t.2.1.length:Int) 0 ([]:List (Int×Unit))
theorem yP (t):lB t=rG cX t:=(e1 197 _).trans (by kernel_rfl)
def Bv (c:mj):Option mj:=
 some (c.1,(c.2.1,()))
theorem Kq (c):mR c=Bv c:=(e1 198 _).trans (by kernel_rfl)
def tY (iN:af dw)(d:Int)(t:Int)(t2:xx)(trace:List (Int×Unit)):Option (List (Int×Unit)):=
 bif (decide (d≥0)) then
  iN d t2 (t2.length:Int) 0 t t2 trace
 else
  some trace
theorem Ed (d t t2 trace):dv d t t2 trace=tY dw d t t2 trace:=(l1 199 0 _).trans (by kernel_rfl)
def tZ (iN:af dw)(mU:af dv)(d:Int)(t:xx)(t2:Int)(t3:Int)(t4:Int)(t5:xx)(trace:List (Int×Unit)):Option (List (Int×Unit)):=
 bif (decide (t3<t2)) then
  (idx t t3).bind fun v0=>
  bif (v0.1==d) then
   iN d t t2 (IntKind.wrap .i64 (t3+1)) t4 t5 (trace++[(t3,())])
  else
   iN d t t2 (IntKind.wrap .i64 (t3+1)) t4 t5 trace
 else
  mU (IntKind.wrap .i64 (d - 1)) t4 t5 trace
theorem Ee (d t t2 t3 t4 t5 trace):dw d t t2 t3 t4 t5 trace=tZ dw dv d t t2 t3 t4 t5 trace:=(l1 199 1 _).trans (by kernel_rfl)
def yQ (mU:af dv)(t:mj):Option (List (Int×Unit)):=
 mU 4 t.1 t.2.1 ([]:List (Int×Unit))
theorem HC (t):j5 t=yQ dv t:=(e1 199 _).trans (by kernel_rfl)
def zD (sA:af jA)(HD:af gf)(c:mj)(c5:H2):Option ((Nat×FV×Int)×H2):=
 (sA (c.1,(c.2.1,()))).bind fun r0=>
 bif (r0 != 0) then
  some (((0:Nat),(0,(0,())),r0),c5)
 else
  (HD (c.1,(c.2.1,())) c5).bind fun r1=>
  some ((r1.1.1,(r1.1.2.1,(r1.1.2.2.1,())),(0:Int)),r1.2)
theorem EZ (c c5):lV c c5=zD jA gf c c5:=(e1 100045 _).trans (by kernel_rfl)
def E0 (sA:af jA)(nF:af dR)(c:mj)(c5:H2):Option ((Nat×FV×Int)×H2):=
 (sA (c.1,(c.2.1,()))).bind fun r0=>
 bif (r0 != 0) then
  some (((0:Nat),(0,(0,())),r0),c5)
 else
  (nF (c.1,(c.2.1,())) c5).bind fun r1=>
  some ((r1.1.1,(r1.1.2.1,(r1.1.2.2.1,())),(0:Int)),r1.2)
theorem NI (c c5):qi c c5=E0 jA dR c c5:=(e1 100145 _).trans (by kernel_rfl)
def gZ (lW:af ch)(aO:af ak)(NJ:af oO)(Kr:af lB)(out:Nat)(t:Int)(t2:Int)(row:H2)(bK:List Int)(e:Bool)(c:Int)(c2:xx)(w:Int)(w2:Int)(c5:H2):Option ((Nat×Int×Int×Unit)×H2):=
 bif (decide (t2<t)) then
  (idx bK t2).bind fun _=>
  (bK[t2.toNat]?).bind fun v0=>
  lW out t (IntKind.wrap .i64 (t2+1)) row (bK.set t2.toNat (-2)) e c c2 w w2 c5
 else
  (NJ (c,(c2,()))).bind fun r1=>
  (Kr (r1.1,(r1.2.1,()))).bind fun r2=>
  aO out out row bK e c c2 w w2 c5 r2
theorem kQ (out t t2 row bK e c c2 w w2 c5):ch out t t2 row bK e c c2 w w2 c5=gZ ch ak oO lB out t t2 row bK e c c2 w w2 c5:=(l1 100046 0 _).trans (by kernel_rfl)
def hU (ia:af bk)(aO:af ak)(ib:af bw)(qj:af lu)(jl:af iV)(out:Nat)(ai:Nat)(row:H2)(bK:List Int)(e:Bool)(c:Int)(c2:xx)(w:Int)(w2:Int)(c5:H2)(rest:List (Int×Unit)):Option ((Nat×Int×Int×Unit)×H2):=
 match rest with
 | []=>ia out (bK.length:Int) 0 bK w w2 c5
 |x0::x0s=>
  bif e then
   (idx row x0.1).bind fun _=>
   (row[x0.1.toNat]?).bind fun v1=>
   bif (!(Option.isNone v1)) then
    aO ai ai row bK e c c2 w (IntKind.wrap .i64 (w2+1)) c5 x0s
   else
    (idx c2 x0.1).bind fun v2=>
    (qj v2.2.2.1).bind fun r3=>
    (jl r3).bind fun r4=>
    ib x0.1 r3 r4.1 r4.2 ai row bK e c c2 w w2 c5 x0s
  else
   (idx c2 x0.1).bind fun v5=>
   (qj v5.2.2.1).bind fun r6=>
   (jl r6).bind fun r7=>
   ib x0.1 r6 r7.1 r7.2 ai row bK e c c2 w w2 c5 x0s
theorem kR (out ai row bK e c c2 w w2 c5 rest):ak out ai row bK e c c2 w w2 c5 rest=hU bk ak bw lu iV out ai row bK e c c2 w w2 c5 rest:=(l1 100046 1 _).trans (by kernel_rfl)
def ic (ia:af bk)(out:Nat)(t:Int)(t2:Int)(t3:List Int)(w:Int)(w2:Int)(c5:H2):Option ((Nat×Int×Int×Unit)×H2):=
 bif (decide (t2<t)) then
  (idx t3 t2).bind fun _=>
  (t3[t2.toNat]?).bind fun v0=>
  bif (decide (v0>(-2))) then
   (ag c5 out).bind fun v1=>
   bif (aE 16 2 v1.length 1) then
   let e2:H2:=((dA c5 out)++[some (v1++([(t2,(v0,()))]:cQ))])
   ia ((dA c5 out).length+1:Nat) t (IntKind.wrap .i64 (t2+1)) t3 w w2 e2
   else none
  else
   ia out t (IntKind.wrap .i64 (t2+1)) t3 w w2 c5
 else
  some ((out,(w,(w2,()))),c5)
theorem kS (out t t2 t3 w w2 c5):bk out t t2 t3 w w2 c5=ic bk out t t2 t3 w w2 c5:=(l1 100046 3 _).trans (by kernel_rfl)
def ie (ib:af bw)(aO:af ak)(L7:af yN)(Bw:af sw)(nD:af iW)(jl:af iV)(j:Int)(x:cQ)(low:Int)(Zc:Bool)(out:Nat)(row:H2)(bK:List Int)(e:Bool)(c:Int)(c2:xx)(w:Int)(w2:Int)(c5:H2)(rest:List (Int×Unit)):Option ((Nat×Int×Int×Unit)×H2):=
 bif Zc then
  (idx row low).bind fun _=>
  (row[low.toNat]?).bind fun v0=>
  bif (!(Option.isNone v0)) then
   (idx row low).bind fun _=>
   (row[low.toNat]?).bind fun v1=>
   let e2:Int:=(IntKind.wrap .i64 (((lst v1).length:Int) - 1))
   (idx (lst v1) e2).bind fun v3=>
   (L7 c v3.2.1).bind fun r4=>
   let e5:Int:=(IntKind.wrap .i64 ((x.length:Int) - 1))
   (idx x e5).bind fun v6=>
   let e7:Int:=(IntKind.wrap .i64 ((IntKind.wrap .i64 (0 - v6.2.1))*r4.1))
   (Bw c e7).bind fun r8=>
   (nD c x r8 (lst v1)).bind fun r9=>
   (jl r9.1).bind fun M4=>
   ib j r9.1 M4.1 M4.2 out row bK e c c2 (IntKind.wrap .i64 (w+1)) w2 c5 rest
  else
   bif Zc then
    (idx row low).bind fun _=>
    (row[low.toNat]?).bind fun v11=>
    (uQ [] (.o6 (.st yT)) [⟨.slice (.st yT),x⟩]).bind fun v12=>
    (idx bK low).bind fun _=>
    (bK[low.toNat]?).bind fun v13=>
    aO out out (row.set low.toNat v12) (bK.set low.toNat j) e c c2 w w2 c5 rest
   else
    (idx bK j).bind fun _=>
    (bK[j.toNat]?).bind fun v14=>
    bif (v14==(-2)) then
     (idx bK j).bind fun _=>
     (bK[j.toNat]?).bind fun v15=>
     aO out out row (bK.set j.toNat (-1)) e c c2 w w2 c5 rest
    else
     aO out out row bK e c c2 w w2 c5 rest
 else
  bif Zc then
   (idx row low).bind fun _=>
   (row[low.toNat]?).bind fun v16=>
   (uQ [] (.o6 (.st yT)) [⟨.slice (.st yT),x⟩]).bind fun v17=>
   (idx bK low).bind fun _=>
   (bK[low.toNat]?).bind fun v18=>
   aO out out (row.set low.toNat v17) (bK.set low.toNat j) e c c2 w w2 c5 rest
  else
   (idx bK j).bind fun _=>
   (bK[j.toNat]?).bind fun v19=>
   bif (v19==(-2)) then
    (idx bK j).bind fun _=>
    (bK[j.toNat]?).bind fun v20=>
    aO out out row (bK.set j.toNat (-1)) e c c2 w w2 c5 rest
   else
    aO out out row bK e c c2 w w2 c5 rest
theorem kT (j x low Zc out row bK e c c2 w w2 c5 rest):bw j x low Zc out row bK e c c2 w w2 c5 rest=ie bw ak yN sw iW iV j x low Zc out row bK e c c2 w w2 c5 rest:=(l1 100046 2 _).trans (by kernel_rfl)
def o7 (lW:af ch)(c:mj)(c5:H2):Option ((Nat×Int×Int×Unit)×H2):=
 bif (iS 24 (c.2.1.length:Int) (c.2.1.length:Int)) then
 let e0:H2:=(List.replicate (c.2.1.length:Int).toNat (none:Option cQ))
 bif (iS 8 (c.2.1.length:Int) (c.2.1.length:Int)) then
 let e1:List Int:=(List.replicate (c.2.1.length:Int).toNat 0)
 lW (0:Nat) (e1.length:Int) 0 e0 e1 false c.1 c.2.1 0 0 c5
 else none
 else none
theorem vf (c c5):gf c c5=o7 ch c c5:=(e1 100046 _).trans (by kernel_rfl)
def ri (kU:af cI)(aK:af bp)(L8:af mR)(IL:af j5)(out:Nat)(t:Int)(t2:Int)(row:H2)(bK:List Int)(e:Bool)(c:Int)(c2:xx)(w:Int)(w2:Int)(c5:H2):Option ((Nat×Int×Int×Unit)×H2):=
 bif (decide (t2<t)) then
  (idx bK t2).bind fun _=>
  (bK[t2.toNat]?).bind fun v0=>
  kU out t (IntKind.wrap .i64 (t2+1)) row (bK.set t2.toNat (-2)) e c c2 w w2 c5
 else
  (L8 (c,(c2,()))).bind fun r1=>
  (IL (r1.1,(r1.2.1,()))).bind fun r2=>
  aK out out row bK e c c2 w w2 c5 r2
theorem By (out t t2 row bK e c c2 w w2 c5):cI out t t2 row bK e c c2 w w2 c5=ri cI bp mR j5 out t t2 row bK e c c2 w w2 c5:=(l1 100146 0 _).trans (by kernel_rfl)
def rj (gu:af cJ)(aK:af bp)(gv:af cK)(qj:af lu)(jl:af iV)(out:Nat)(ai:Nat)(row:H2)(bK:List Int)(e:Bool)(c:Int)(c2:xx)(w:Int)(w2:Int)(c5:H2)(rest:List (Int×Unit)):Option ((Nat×Int×Int×Unit)×H2):=
 match rest with
 | []=>gu out (bK.length:Int) 0 bK w w2 c5
 |x0::x0s=>
  bif e then
   (idx row x0.1).bind fun _=>
   (row[x0.1.toNat]?).bind fun v1=>
   bif (!(Option.isNone v1)) then
    aK ai ai row bK e c c2 w (IntKind.wrap .i64 (w2+1)) c5 x0s
   else
    (idx c2 x0.1).bind fun v2=>
    (qj v2.2.2.1).bind fun r3=>
    (jl r3).bind fun r4=>
    gv x0.1 r3 r4.1 r4.2 ai row bK e c c2 w w2 c5 x0s
  else
   (idx c2 x0.1).bind fun v5=>
   (qj v5.2.2.1).bind fun r6=>
   (jl r6).bind fun r7=>
   gv x0.1 r6 r7.1 r7.2 ai row bK e c c2 w w2 c5 x0s
theorem Bz (out ai row bK e c c2 w w2 c5 rest):bp out ai row bK e c c2 w w2 c5 rest=rj cJ bp cK lu iV out ai row bK e c c2 w w2 c5 rest:=(l1 100146 1 _).trans (by kernel_rfl)
def rk (gu:af cJ)(out:Nat)(t:Int)(t2:Int)(t3:List Int)(w:Int)(w2:Int)(c5:H2):Option ((Nat×Int×Int×Unit)×H2):=
 bif (decide (t2<t)) then
  (idx t3 t2).bind fun _=>
  (t3[t2.toNat]?).bind fun v0=>
  bif (decide (v0>(-2))) then
   (ag c5 out).bind fun v1=>
   bif (aE 16 2 v1.length 1) then
   let e2:H2:=((dA c5 out)++[some (v1++([(t2,(v0,()))]:cQ))])
   gu ((dA c5 out).length+1:Nat) t (IntKind.wrap .i64 (t2+1)) t3 w w2 e2
   else none
  else
   gu out t (IntKind.wrap .i64 (t2+1)) t3 w w2 c5
 else
  some ((out,(w,(w2,()))),c5)
theorem BA (out t t2 t3 w w2 c5):cJ out t t2 t3 w w2 c5=rk cJ out t t2 t3 w w2 c5:=(l1 100146 3 _).trans (by kernel_rfl)
def rl (gv:af cK)(aK:af bp)(L7:af yN)(Bw:af sw)(nD:af iW)(jl:af iV)(j:Int)(x:cQ)(low:Int)(Zc:Bool)(out:Nat)(row:H2)(bK:List Int)(e:Bool)(c:Int)(c2:xx)(w:Int)(w2:Int)(c5:H2)(rest:List (Int×Unit)):Option ((Nat×Int×Int×Unit)×H2):=
 bif Zc then
  (idx row low).bind fun _=>
  (row[low.toNat]?).bind fun v0=>
  bif (!(Option.isNone v0)) then
   (idx row low).bind fun _=>
   (row[low.toNat]?).bind fun v1=>
   let e2:Int:=(IntKind.wrap .i64 (((lst v1).length:Int) - 1))
   (idx (lst v1) e2).bind fun v3=>
   (L7 c v3.2.1).bind fun r4=>
   let e5:Int:=(IntKind.wrap .i64 ((x.length:Int) - 1))
   (idx x e5).bind fun v6=>
   let e7:Int:=(IntKind.wrap .i64 ((IntKind.wrap .i64 (0 - v6.2.1))*r4.1))
   (Bw c e7).bind fun r8=>
   (nD c x r8 (lst v1)).bind fun r9=>
   (jl r9.1).bind fun M4=>
   gv j r9.1 M4.1 M4.2 out row bK e c c2 (IntKind.wrap .i64 (w+1)) w2 c5 rest
  else
   bif Zc then
    (idx row low).bind fun _=>
    (row[low.toNat]?).bind fun v11=>
    (uQ [] (.o6 (.st yT)) [⟨.slice (.st yT),x⟩]).bind fun v12=>
    (idx bK low).bind fun _=>
    (bK[low.toNat]?).bind fun v13=>
    aK out out (row.set low.toNat v12) (bK.set low.toNat j) e c c2 w w2 c5 rest
   else
    (idx bK j).bind fun _=>
    (bK[j.toNat]?).bind fun v14=>
    bif (v14==(-2)) then
     (idx bK j).bind fun _=>
     (bK[j.toNat]?).bind fun v15=>
     aK out out row (bK.set j.toNat (-1)) e c c2 w w2 c5 rest
    else
     aK out out row bK e c c2 w w2 c5 rest
 else
  bif Zc then
   (idx row low).bind fun _=>
   (row[low.toNat]?).bind fun v16=>
   (uQ [] (.o6 (.st yT)) [⟨.slice (.st yT),x⟩]).bind fun v17=>
   (idx bK low).bind fun _=>
   (bK[low.toNat]?).bind fun v18=>
   aK out out (row.set low.toNat v17) (bK.set low.toNat j) e c c2 w w2 c5 rest
  else
   (idx bK j).bind fun _=>
   (bK[j.toNat]?).bind fun v19=>
   bif (v19==(-2)) then
    (idx bK j).bind fun _=>
    (bK[j.toNat]?).bind fun v20=>
    aK out out row (bK.set j.toNat (-1)) e c c2 w w2 c5 rest
   else
    aK out out row bK e c c2 w w2 c5 rest
theorem BB (j x low Zc out row bK e c c2 w w2 c5 rest):cK j x low Zc out row bK e c c2 w w2 c5 rest=rl cK bp yN sw iW iV j x low Zc out row bK e c c2 w w2 c5 rest:=(l1 100146 2 _).trans (by kernel_rfl)
def vg (kU:af cI)(c:mj)(c5:H2):Option ((Nat×Int×Int×Unit)×H2):=
 bif (iS 24 (c.2.1.length:Int) (c.2.1.length:Int)) then
 let e0:H2:=(List.replicate (c.2.1.length:Int).toNat (none:Option cQ))
 bif (iS 8 (c.2.1.length:Int) (c.2.1.length:Int)) then
 let e1:List Int:=(List.replicate (c.2.1.length:Int).toNat 0)
 kU (0:Nat) (e1.length:Int) 0 e0 e1 true c.1 c.2.1 0 0 c5
 else none
 else none
theorem E1 (c c5):dR c c5=vg cI c c5:=(e1 100146 _).trans (by kernel_rfl)
end
end Go.Proofs.YtofjebmoebhiiaaGreatDoor.Ev
namespace Go.Proofs.YtofjebmoebhiiaaGreatDoor.Ev
open Go.Abs
noncomputable section
def pZ (p0:af gh)(p:Int)(c:cQ)(t:cQ)(t2:Int)(t3:Int):Option (Int):=
 bif (decide (t3<t2)) then
  (idx t t3).bind fun v0=>
  bif (decide (v0.1<0)) then
   some 1
  else
   bif (decide (v0.1≥1024)) then
    some 1
   else
    bif (decide (v0.2.1<1)) then
     some 1
    else
     bif (decide (v0.2.1≥p)) then
      some 1
     else
      bif (decide (t3>0)) then
       (idx c (IntKind.wrap .i64 (t3 - 1))).bind fun v1=>
       bif (decide (v0.1≤v1.1)) then
        some 6
       else
        p0 p c t t2 (IntKind.wrap .i64 (t3+1))
      else
       p0 p c t t2 (IntKind.wrap .i64 (t3+1))
 else
  some 0
theorem ta (p c t t2 t3):gh p c t t2 t3=pZ gh p c t t2 t3:=(l1 69 0 _).trans (by kernel_rfl)
def BC (p0:af gh)(u9:af lU)(p:Int)(c:cQ):Option (Int):=
 (u9 p).bind fun r0=>
 bif (!r0) then
  some 8
 else
  p0 p c c (c.length:Int) 0
theorem Hc (p c):lr p c=BC gh lU p c:=(e1 69 _).trans (by kernel_rfl)
def Gv (c:cQ):Option (Int×Bool):=
 bif ((c.length:Int)==0) then
  some (0,false)
 else
  let e0:Int:=(IntKind.wrap .i64 ((c.length:Int) - 1))
  (idx c e0).bind fun v1=>
  some (v1.1,true)
theorem Lj (c):iV c=Gv c:=(e1 85 _).trans (by kernel_rfl)
def Gw (NK:af oM)(Bw:af sw)(Um:af tW)(p:Int)(a:cQ)(k:Int)(b:cQ):Option (cQ×Int):=
 (NK p ([a,b]:List cQ)).bind fun r0=>
 bif (r0 != 0) then
  some (([]:cQ),r0)
 else
  (Bw p k).bind fun r1=>
  (Um p a r1 b).bind fun r2=>
  some (r2,(0:Int))
theorem Lk (p a k b):iW p a k b=Gw oM sw tW p a k b:=(e1 87 _).trans (by kernel_rfl)
def iF (qk:af fg)(Bs:af lr)(p:Int)(t:List cQ)(t2:Int)(t3:Int):Option (Int):=
 bif (decide (t3<t2)) then
  (idx t t3).bind fun v0=>
  (Bs p v0).bind fun r1=>
  bif (r1 != 0) then
   some r1
  else
   qk p t t2 (IntKind.wrap .i64 (t3+1))
 else
  some 0
theorem kq (p t t2 t3):fg p t t2 t3=iF fg lr p t t2 t3:=(l1 122 0 _).trans (by kernel_rfl)
def vh (qk:af fg)(p:Int)(l:List cQ):Option (Int):=
 qk p l (l.length:Int) 0
theorem BD (p l):oM p l=vh fg p l:=(e1 122 _).trans (by kernel_rfl)
def q6 (q7:af iB)(row:cQ)(p:Int)(k:Int)(rest:List (Int×FV×Unit)):Option cQ:=
 match rest with
 | []=>some row
 |x0::x0s=>
  let e1:Int:=(IntKind.wrap .i64 (x0.2.1.1+(IntKind.wrap .i64 (k*x0.2.1.2.1))))
  bif (!(p==0)) then
  bif ((e1.tmod p) != 0) then
   let e2:cQ:=([(x0.1,((e1.tmod p),()))]:cQ)
   bif (aE 16 2 row.length 1) then
   q7 (row++e2) p k x0s
   else none
  else
   q7 row p k x0s
  else none
theorem vi (row p k rest):iB row p k rest=q6 iB row p k rest:=(l1 123 0 _).trans (by kernel_rfl)
def Ef (q7:af iB)(Q2:af sx)(NL:af oN)(p:Int)(a:cQ)(k:Int)(b:cQ):Option cQ:=
 (Q2 a b).bind fun r0=>
 (NL r0.1 r0.2).bind fun r1=>
 q7 ([]:cQ) p k r1
theorem IM (p a k b):tW p a k b=Ef iB sx oN p a k b:=(e1 123 _).trans (by kernel_rfl)
def zE (a:cQ)(b:cQ):Option (cQ×cQ):=
 some (a,b)
theorem E2 (a b):sx a b=zE a b:=(e1 155 _).trans (by kernel_rfl)
def cY (ar:af dQ)(t:cQ)(t2:cQ)(trace:List (Int×FV×Unit)):Option (List (Int×FV×Unit)):=
 bif (decide ((t.length:Int)>0)) then
  bif ((t2.length:Int)==0) then
   (idx t 0).bind fun v0=>
   (idx t 0).bind fun v1=>
   bif (c8 t.length 1 (t.length:Int)) then
   let e2:List (Int×FV×Unit):=(trace++[(v0.1,((v1.2.1,(0,())),()))])
   ar (cut t 1 (t.length:Int)) t2 e2
   else none
  else
   bif (decide ((t.length:Int)>0)) then
    (idx t 0).bind fun v3=>
    (idx t2 0).bind fun v4=>
    bif (decide (v3.1<v4.1)) then
     (idx t 0).bind fun v5=>
     (idx t 0).bind fun v6=>
     bif (c8 t.length 1 (t.length:Int)) then
     let e7:List (Int×FV×Unit):=(trace++[(v5.1,((v6.2.1,(0,())),()))])
     ar (cut t 1 (t.length:Int)) t2 e7
     else none
    else
     bif ((t.length:Int)==0) then
      (idx t2 0).bind fun v8=>
      (idx t2 0).bind fun v9=>
      bif (c8 t2.length 1 (t2.length:Int)) then
      let Y0:List (Int×FV×Unit):=(trace++[(v8.1,((0,(v9.2.1,())),()))])
      ar t (cut t2 1 (t2.length:Int)) Y0
      else none
     else
      (idx t2 0).bind fun v11=>
      (idx t 0).bind fun v12=>
      bif (decide (v11.1<v12.1)) then
       (idx t2 0).bind fun v13=>
       (idx t2 0).bind fun v14=>
       bif (c8 t2.length 1 (t2.length:Int)) then
       let e15:List (Int×FV×Unit):=(trace++[(v13.1,((0,(v14.2.1,())),()))])
       ar t (cut t2 1 (t2.length:Int)) e15
       else none
      else
       (idx t 0).bind fun v16=>
       (idx t 0).bind fun v17=>
       (idx t2 0).bind fun v18=>
       bif (c8 t.length 1 (t.length:Int)) then
       bif (c8 t2.length 1 (t2.length:Int)) then
       let e19:List (Int×FV×Unit):=(trace++[(v16.1,((v17.2.1,(v18.2.1,())),()))])
       ar (cut t 1 (t.length:Int)) (cut t2 1 (t2.length:Int)) e19
       else none
       else none
   else
    bif ((t.length:Int)==0) then
     (idx t2 0).bind fun v20=>
     (idx t2 0).bind fun v21=>
     bif (c8 t2.length 1 (t2.length:Int)) then
     let e22:List (Int×FV×Unit):=(trace++[(v20.1,((0,(v21.2.1,())),()))])
     ar t (cut t2 1 (t2.length:Int)) e22
     else none
    else
     (idx t2 0).bind fun v23=>
     (idx t 0).bind fun v24=>
     bif (decide (v23.1<v24.1)) then
      (idx t2 0).bind fun v25=>
      (idx t2 0).bind fun v26=>
      bif (c8 t2.length 1 (t2.length:Int)) then
      let e27:List (Int×FV×Unit):=(trace++[(v25.1,((0,(v26.2.1,())),()))])
      ar t (cut t2 1 (t2.length:Int)) e27
      else none
     else
      (idx t 0).bind fun v28=>
      (idx t 0).bind fun v29=>
      (idx t2 0).bind fun v30=>
      bif (c8 t.length 1 (t.length:Int)) then
      bif (c8 t2.length 1 (t2.length:Int)) then
      let e31:List (Int×FV×Unit):=(trace++[(v28.1,((v29.2.1,(v30.2.1,())),()))])
      ar (cut t 1 (t.length:Int)) (cut t2 1 (t2.length:Int)) e31
      else none
      else none
 else
  bif (decide ((t2.length:Int)>0)) then
   bif ((t2.length:Int)==0) then
    (idx t 0).bind fun v32=>
    (idx t 0).bind fun v33=>
    bif (c8 t.length 1 (t.length:Int)) then
    let e34:List (Int×FV×Unit):=(trace++[(v32.1,((v33.2.1,(0,())),()))])
    ar (cut t 1 (t.length:Int)) t2 e34
    else none
   else
    bif (decide ((t.length:Int)>0)) then
     (idx t 0).bind fun v35=>
     (idx t2 0).bind fun v36=>
     bif (decide (v35.1<v36.1)) then
      (idx t 0).bind fun v37=>
      (idx t 0).bind fun v38=>
      bif (c8 t.length 1 (t.length:Int)) then
      let e39:List (Int×FV×Unit):=(trace++[(v37.1,((v38.2.1,(0,())),()))])
      ar (cut t 1 (t.length:Int)) t2 e39
      else none
     else
      bif ((t.length:Int)==0) then
       (idx t2 0).bind fun v40=>
       (idx t2 0).bind fun v41=>
       bif (c8 t2.length 1 (t2.length:Int)) then
       let e42:List (Int×FV×Unit):=(trace++[(v40.1,((0,(v41.2.1,())),()))])
       ar t (cut t2 1 (t2.length:Int)) e42
       else none
      else
       (idx t2 0).bind fun v43=>
       (idx t 0).bind fun v44=>
       bif (decide (v43.1<v44.1)) then
        (idx t2 0).bind fun v45=>
        (idx t2 0).bind fun v46=>
        bif (c8 t2.length 1 (t2.length:Int)) then
        let e47:List (Int×FV×Unit):=(trace++[(v45.1,((0,(v46.2.1,())),()))])
        ar t (cut t2 1 (t2.length:Int)) e47
        else none
       else
        (idx t 0).bind fun v48=>
        (idx t 0).bind fun v49=>
        (idx t2 0).bind fun v50=>
        bif (c8 t.length 1 (t.length:Int)) then
        bif (c8 t2.length 1 (t2.length:Int)) then
        let e51:List (Int×FV×Unit):=(trace++[(v48.1,((v49.2.1,(v50.2.1,())),()))])
        ar (cut t 1 (t.length:Int)) (cut t2 1 (t2.length:Int)) e51
        else none
        else none
    else
     bif ((t.length:Int)==0) then
      (idx t2 0).bind fun v52=>
      (idx t2 0).bind fun v53=>
      bif (c8 t2.length 1 (t2.length:Int)) then
      let e54:List (Int×FV×Unit):=(trace++[(v52.1,((0,(v53.2.1,())),()))])
      ar t (cut t2 1 (t2.length:Int)) e54
      else none
     else
      (idx t2 0).bind fun v55=>
      (idx t 0).bind fun v56=>
      bif (decide (v55.1<v56.1)) then
       (idx t2 0).bind fun v57=>
       (idx t2 0).bind fun v58=>
       bif (c8 t2.length 1 (t2.length:Int)) then
       let e59:List (Int×FV×Unit):=(trace++[(v57.1,((0,(v58.2.1,())),()))])
       ar t (cut t2 1 (t2.length:Int)) e59
       else none
      else
       (idx t 0).bind fun v60=>
       (idx t 0).bind fun v61=>
       (idx t2 0).bind fun v62=>
       bif (c8 t.length 1 (t.length:Int)) then
       bif (c8 t2.length 1 (t2.length:Int)) then
       let e63:List (Int×FV×Unit):=(trace++[(v60.1,((v61.2.1,(v62.2.1,())),()))])
       ar (cut t 1 (t.length:Int)) (cut t2 1 (t2.length:Int)) e63
       else none
       else none
  else
   some trace
theorem dx (t t2 trace):dQ t t2 trace=cY dQ t t2 trace:=(l1 171 0 _).trans (by kernel_rfl)
def vj (ar:af dQ)(t:cQ)(t2:cQ):Option (List (Int×FV×Unit)):=
 ar t t2 ([]:List (Int×FV×Unit))
theorem BE (t t2):oN t t2=vj dQ t t2:=(e1 171 _).trans (by kernel_rfl)
end
end Go.Proofs.YtofjebmoebhiiaaGreatDoor.Ev
namespace Go.Proofs.YtofjebmoebhiiaaGreatDoor.Ev
open Go.Abs
noncomputable section
def sW (oP:af jB)(p:Int)(t:Int):Option (Bool):=
 bif (decide (t<16)) then
  bif (decide (t>1)) then
   bif (!(t==0)) then
   bif ((p.tmod t)==0) then
    bif (p != t) then
     some false
    else
     oP p (IntKind.wrap .i64 (t+1))
   else
    oP p (IntKind.wrap .i64 (t+1))
   else none
  else
   oP p (IntKind.wrap .i64 (t+1))
 else
  bif (decide (p>1)) then
   some (decide (p≤251))
  else
   some false
theorem xE (p t):jB p t=sW jB p t:=(l1 67 0 _).trans (by kernel_rfl)
def Gx (oP:af jB)(p:Int):Option (Bool):=
 oP p 0
theorem Ll (p):lU p=Gx jB p:=(e1 67 _).trans (by kernel_rfl)
def L9 (Pn:af Gs)(lD:af dY)(IN:af jZ)(p:Int)(a:Int):Option (Int×Int):=
 (Pn p).bind fun r0=>
 bif (r0.2 != 0) then
  some (0,r0.2)
 else
  (lD r0.1 a).bind fun r1=>
  bif (r1==0) then
   some (0,(9:Int))
  else
   (IN r0.1 a).bind fun r2=>
   some (r2,(0:Int))
theorem Qo (p a):yN p a=L9 Gs dY jZ p a:=(e1 86 _).trans (by kernel_rfl)
def Ma (Pn:af Gs)(lD:af dY)(p:Int)(a:Int):Option (Int):=
 (Pn p).bind fun r0=>
 bif (r0.2 != 0) then
  some 0
 else
  (lD r0.1 a).bind fun r1=>
  some r1
theorem Qp (p a):sw p a=Ma Gs dY p a:=(e1 88 _).trans (by kernel_rfl)
def J9 (u9:af lU)(p:Int):Option (Int×Int):=
 (u9 p).bind fun r0=>
 bif (!r0) then
  some (0,(8:Int))
 else
  some (p,(0:Int))
theorem Mb (p):Gs p=J9 lU p:=(e1 119 _).trans (by kernel_rfl)
def vk (f:Int)(a:Int):Option (Int):=
 bif (!(f==0)) then
 bif (!(f==0)) then
 some ((IntKind.wrap .i64 ((a.tmod f)+f)).tmod f)
 else none
 else none
theorem BG (f a):dY f a=vk f a:=(e1 120 _).trans (by kernel_rfl)
def ql (Mc:af mP)(f:Int)(a:Int):Option (Int):=
 (Mc f a (IntKind.wrap .i64 (f - 2))).bind fun r0=>
 some r0
theorem wL (f a):jZ f a=ql mP f a:=(e1 121 _).trans (by kernel_rfl)
def o8 (kr:af dp)(f:Int)(n:Int)(out:Int)(base:Int):Option (Int):=
 bif (decide (n>0)) then
  bif ((n.tmod 2)==1) then
   bif (!(f==0)) then
   bif (!(f==0)) then
   kr f (IntKind.wrap .i64 (n.tdiv 2)) ((IntKind.wrap .i64 (out*base)).tmod f) ((IntKind.wrap .i64 (base*base)).tmod f)
   else none
   else none
  else
   bif (!(f==0)) then
   kr f (IntKind.wrap .i64 (n.tdiv 2)) out ((IntKind.wrap .i64 (base*base)).tmod f)
   else none
 else
  some out
theorem vm (f n out base):dp f n out base=o8 dp f n out base:=(l1 154 0 _).trans (by kernel_rfl)
def tb (kr:af dp)(lD:af dY)(f:Int)(a:Int)(n:Int):Option (Int):=
 (lD f a).bind fun r0=>
 kr f n 1 r0
theorem Ac (f a n):mP f a n=tb dp dY f a n:=(e1 154 _).trans (by kernel_rfl)
end
end Go.Proofs.YtofjebmoebhiiaaGreatDoor.Ev
namespace Go.Proofs.YtofjebmoebhiiaaGreatDoor.Ev
open Go.Abs
noncomputable section
def yd (Un:af tU)(S3:af ET)(sB:af xy)(xF:af iA)(lj:af fF)(Q3:af oV)(a:ByteArray):Option (((Bool×(List Int)×Unit)×(Bool×(List Int)×Unit)×Unit)×Bool):=
 (Un a (bs [47])).bind fun r0=>
 (S3 r0.1).bind fun r1=>
 bif (!r1.2) then
  (sB 1).bind fun r2=>
  some (((r1.1.1,(r1.1.2.1,())),((r2.1,(r2.2.1,())),())),r1.2)
 else
  bif (!r0.2.2) then
   (sB 1).bind fun r3=>
   some (((r1.1.1,(r1.1.2.1,())),((r3.1,(r3.2.1,())),())),r1.2)
  else
   (S3 r0.2.1).bind fun r4=>
   bif (!r4.2) then
    some (((false,(([]:List Int),())),((false,(([]:List Int),())),())),false)
   else
    (xF (r1.1.1,(r1.1.2.1,()))).bind fun r5=>
    bif (r5==0) then
     some (((false,(([]:List Int),())),((false,(([]:List Int),())),())),false)
    else
     (sB 1).bind fun r6=>
     (lj (r4.1.1,(r4.1.2.1,())) (r6.1,(r6.2.1,()))).bind fun r7=>
     bif (decide (r7≤0)) then
      some (((false,(([]:List Int),())),((false,(([]:List Int),())),())),false)
     else
      (Q3 (r1.1.1,(r1.1.2.1,())) (r4.1.1,(r4.1.2.1,()))).bind fun r8=>
      (sB 1).bind fun r9=>
      (lj (r8.1,(r8.2.1,())) (r9.1,(r9.2.1,()))).bind fun M4=>
      bif (M4 != 0) then
       some (((false,(([]:List Int),())),((false,(([]:List Int),())),())),false)
      else
       some (((r1.1.1,(r1.1.2.1,())),((r4.1.1,(r4.1.2.1,())),())),true)
theorem BH (a):gg a=yd tU ET xy iA fF oV a:=(e1 42 _).trans (by kernel_rfl)
def zF (Q4:af oW)(a:(Bool×(List Int)×Unit)×(Bool×(List Int)×Unit)×Unit):Option ((Bool×(List Int)×Unit)×(Bool×(List Int)×Unit)×Unit):=
 (Q4 (a.1.1,(a.1.2.1,()))).bind fun r0=>
 some ((r0.1,(r0.2.1,())),((a.2.1.1,(a.2.1.2.1,())),()))
theorem E3 (a):oT a=zF oW a:=(e1 43 _).trans (by kernel_rfl)
def xG (sX:af jD)(sB:af xy)(lj:af fF)(xH:af mM)(a:(Bool×(List Int)×Unit)×(Bool×(List Int)×Unit)×Unit):Option (ByteArray):=
 (sX ((a.1.1,(a.1.2.1,())),((a.2.1.1,(a.2.1.2.1,())),()))).bind fun r0=>
 (sB 1).bind fun r1=>
 (lj (r0.1,(r0.2.1,())) (r1.1,(r1.2.1,()))).bind fun r2=>
 bif (r2 != 0) then
  (xH (a.1.1,(a.1.2.1,()))).bind fun r3=>
  bif (Nat.ble (r3.size+(bs [47]).size) 9223372036854775807) then
  (xH (r0.1,(r0.2.1,()))).bind fun r4=>
  bif (Nat.ble ((r3++(bs [47])).size+r4.size) 9223372036854775807) then
  some ((r3++(bs [47]))++r4)
  else none
  else none
 else
  (xH (a.1.1,(a.1.2.1,()))).bind fun r5=>
  some r5
theorem Dm (a):mK a=xG jD xy fF mM a:=(e1 44 _).trans (by kernel_rfl)
def zG (sX:af jD)(Hd:af oY)(lj:af fF)(a:(Bool×(List Int)×Unit)×(Bool×(List Int)×Unit)×Unit)(b:(Bool×(List Int)×Unit)×(Bool×(List Int)×Unit)×Unit):Option (Int):=
 (sX ((b.1.1,(b.1.2.1,())),((b.2.1.1,(b.2.1.2.1,())),()))).bind fun r0=>
 (Hd (a.1.1,(a.1.2.1,())) (r0.1,(r0.2.1,()))).bind fun r1=>
 (sX ((a.1.1,(a.1.2.1,())),((a.2.1.1,(a.2.1.2.1,())),()))).bind fun r2=>
 (Hd (b.1.1,(b.1.2.1,())) (r2.1,(r2.2.1,()))).bind fun r3=>
 (lj (r1.1,(r1.2.1,())) (r3.1,(r3.2.1,()))).bind fun r4=>
 some r4
theorem E4 (a b):oU a b=zG jD oY fF a b:=(e1 74 _).trans (by kernel_rfl)
def ye (Eg:af nt)(vn:af iX)(s:ByteArray)(neg:Bool)(D8:Int)(d:List Int)(t:Bool)(t2:List Int):Option ((Bool×(List Int)×Unit)×Bool):=
 bif (decide (D8>0)) then
  let e0:Int:=(bif decide ((IntKind.wrap .i64 (D8 - 9))>0) then (IntKind.wrap .i64 (D8 - 9)) else 0)
  bif (c8 s.size e0 D8) then
  bif (Nat.ble (s.extract e0.toNat D8.toNat).size 140737488355328) then
  let e1:Int:=((bytesOf (s.extract e0.toNat D8.toNat)).length:Int)
  Eg s neg D8 0 (bytesOf (s.extract e0.toNat D8.toNat)) e1 0 d t t2
  else none
  else none
 else
  (vn neg d).bind fun r2=>
  some ((r2.1,(r2.2.1,())),true)
theorem BI (s neg D8 d t t2):jC s neg D8 d t t2=ye nt iX s neg D8 d t t2:=(l1 76 0 _).trans (by kernel_rfl)
def yf (Eg:af nt)(yg:af jC)(s:ByteArray)(neg:Bool)(D8:Int)(x:Int)(t:List Int)(t2:Int)(t3:Int)(d:List Int)(t4:Bool)(t5:List Int):Option ((Bool×(List Int)×Unit)×Bool):=
 bif (decide (t3<t2)) then
  (idx t t3).bind fun v0=>
  bif (decide (v0<48)) then
   some ((false,(([]:List Int),())),false)
  else
   bif (decide (v0>57)) then
    some ((false,(([]:List Int),())),false)
   else
    let e1:Int:=(IntKind.wrap .u32 (IntKind.wrap .u8 (v0 - 48)))
    let e2:Int:=(IntKind.wrap .u32 ((IntKind.wrap .u32 (10*x))+e1))
    Eg s neg D8 e2 t t2 (IntKind.wrap .i64 (t3+1)) d t4 t5
 else
  bif (aE 4 1 d.length 1) then
  yg s neg (IntKind.wrap .i64 (D8 - 9)) (d++([x]:List Int)) t4 t5
  else none
theorem BJ (s neg D8 x t t2 t3 d t4 t5):nt s neg D8 x t t2 t3 d t4 t5=yf nt jC s neg D8 x t t2 t3 d t4 t5:=(l1 76 1 _).trans (by kernel_rfl)
def Md (yg:af jC)(Ks:af iJ)(a:ByteArray):Option ((Bool×(List Int)×Unit)×Bool):=
 (Ks a (bs [45])).bind fun r0=>
 bif (r0.1.toList==ByteArray.empty.toList) then
  some ((false,(([]:List Int),())),false)
 else
  (zt r0.1 0).bind fun v1=>
  bif (v1==48) then
   bif (decide ((r0.1.size:Int)>1)) then
    some ((false,(([]:List Int),())),false)
   else
    bif r0.2 then
     some ((false,(([]:List Int),())),false)
    else
     yg r0.1 r0.2 (r0.1.size:Int) ([]:List Int) false ([]:List Int)
  else
   yg r0.1 r0.2 (r0.1.size:Int) ([]:List Int) false ([]:List Int)
theorem Qq (a):ET a=Md jC iJ a:=(e1 76 _).trans (by kernel_rfl)
def Dp (Dq:af tV)(u:Int)(neg:Bool)(d:List Int)(t:Bool)(t2:List Int):Option (Bool×(List Int)×Unit):=
 bif (decide (u>0)) then
  let e0:List Int:=([(IntKind.wrap .u32 (u.tmod 1000000000))]:List Int)
  bif (aE 4 1 d.length 1) then
  Dq (IntKind.wrap .u64 (u.tdiv 1000000000)) neg (d++e0) t t2
  else none
 else
  some (neg,(d,()))
theorem Gy (u neg d t t2):tV u neg d t t2=Dp tV u neg d t t2:=(l1 77 0 _).trans (by kernel_rfl)
def S4 (Dq:af tV)(n:Int):Option (Bool×(List Int)×Unit):=
 bif (decide (n<0)) then
  Dq (IntKind.wrap .u64 (0 - (IntKind.wrap .u64 n))) (decide (n<0)) ([]:List Int) false ([]:List Int)
 else
  Dq (IntKind.wrap .u64 n) (decide (n<0)) ([]:List Int) false ([]:List Int)
theorem Vz (n):xy n=S4 tV n:=(e1 77 _).trans (by kernel_rfl)
def xI (a:Bool×(List Int)×Unit):Option (Int):=
 bif ((a.2.1.length:Int)==0) then
  some 0
 else
  bif a.1 then
   some (-1)
  else
   some 1
theorem Dr (a):iA a=xI a:=(e1 78 _).trans (by kernel_rfl)
def zJ (Gz:af yO)(a:Bool×(List Int)×Unit)(b:Bool×(List Int)×Unit):Option (Int):=
 bif (!(a.1==b.1)) then
  bif a.1 then
   some (-1)
  else
   some 1
 else
  bif a.1 then
   (Gz b.2.1 a.2.1).bind fun r0=>
   some r0
  else
   (Gz a.2.1 b.2.1).bind fun r1=>
   some r1
theorem E5 (a b):fF a b=zJ yO a b:=(e1 79 _).trans (by kernel_rfl)
def tc (nH:af ed)(S5:af EV)(Zd:af EU)(sB:af xy)(Qr:af xz)(qm:af mN)(x:List Int)(y:List Int)(t:Bool)(t2:List Int):Option (Bool×(List Int)×Unit):=
 bif (decide ((y.length:Int)>0)) then
  bif (decide ((x.length:Int)≤2)) then
   bif (decide ((y.length:Int)≤2)) then
    (S5 x).bind fun r0=>
    (S5 y).bind fun r1=>
    (Zd r0 r1).bind fun r2=>
    (sB r2).bind fun r3=>
    some (r3.1,(r3.2.1,()))
   else
    (Qr x y).bind fun r4=>
    (qm r4.2).bind fun r5=>
    nH y r5 t t2
  else
   (Qr x y).bind fun r6=>
   (qm r6.2).bind fun r7=>
   nH y r7 t t2
 else
  some (false,(x,()))
theorem Ad (x y t t2):ed x y t t2=tc ed EV EU xy xz mN x y t t2:=(l1 80 0 _).trans (by kernel_rfl)
def zK (nH:af ed)(a:Bool×(List Int)×Unit)(b:Bool×(List Int)×Unit):Option (Bool×(List Int)×Unit):=
 nH a.2.1 b.2.1 false ([]:List Int)
theorem E6 (a b):oV a b=zK ed a b:=(e1 80 _).trans (by kernel_rfl)
def zL (vn:af iX)(a:Bool×(List Int)×Unit):Option (Bool×(List Int)×Unit):=
 (vn (!a.1) a.2.1).bind fun r0=>
 some (r0.1,(r0.2.1,()))
theorem E7 (a):oW a=zL iX a:=(e1 81 _).trans (by kernel_rfl)
def zM (xF:af iA)(sB:af xy)(a:(Bool×(List Int)×Unit)×(Bool×(List Int)×Unit)×Unit):Option (Bool×(List Int)×Unit):=
 (xF (a.2.1.1,(a.2.1.2.1,()))).bind fun r0=>
 bif (r0==0) then
  (sB 1).bind fun r1=>
  some (r1.1,(r1.2.1,()))
 else
  some (a.2.1.1,(a.2.1.2.1,()))
theorem E8 (a):jD a=zM iA xy a:=(e1 82 _).trans (by kernel_rfl)
def mq (rH:af eI)(rI:af dE)(t:List Int)(t2:Int)(t3:Int)(out:List Int)(a:Bool)(a2:List Int):Option (ByteArray):=
 bif (decide (t3<t2)) then
  (idx t t3).bind fun v0=>
  rH v0 t t2 t3 0 out a a2
 else
  rI out a a2
theorem qn (t t2 t3 out a a2):dD t t2 t3 out a a2=mq eI dE t t2 t3 out a a2:=(l1 83 0 _).trans (by kernel_rfl)
def mr (rH:af eI)(rJ:af dD)(x:Int)(t:List Int)(t2:Int)(t3:Int)(t4:Int)(out:List Int)(a:Bool)(a2:List Int):Option (ByteArray):=
 bif (decide (t4<9)) then
  let e0:Int:=(IntKind.wrap .u32 (48+(x.tmod 10)))
  bif (aE 1 1 out.length 1) then
  rH (IntKind.wrap .u32 (x.tdiv 10)) t t2 t3 (IntKind.wrap .i64 (t4+1)) (out++([(IntKind.wrap .u8 e0)]:List Int)) a a2
  else none
 else
  rJ t t2 (IntKind.wrap .i64 (t3+1)) out a a2
theorem qo (x t t2 t3 t4 out a a2):eI x t t2 t3 t4 out a a2=mr eI dD x t t2 t3 t4 out a a2:=(l1 83 1 _).trans (by kernel_rfl)
def rK (rI:af dE)(mu:af dF)(out:List Int)(a:Bool)(a2:List Int):Option (ByteArray):=
 let e0:Int:=(IntKind.wrap .i64 ((out.length:Int) - 1))
 (idx out e0).bind fun _=>
 (out[e0.toNat]?).bind fun v1=>
 bif (v1==48) then
  let e2:Int:=(IntKind.wrap .i64 ((out.length:Int) - 1))
  bif (c8 out.length 0 e2) then
  rI (out.take e2.toNat) a a2
  else none
 else
  bif a then
   bif (aE 1 1 out.length 1) then
   let e3:Int:=((out++([45]:List Int)).length:Int)
   mu 0 (IntKind.wrap .i64 (e3 - 1)) (out++([45]:List Int))
   else none
  else
   let e4:Int:=(IntKind.wrap .i64 ((out.length:Int) - 1))
   mu 0 e4 out
theorem yS (out a a2):dE out a a2=rK dE dF out a a2:=(l1 83 2 _).trans (by kernel_rfl)
def rL (mu:af dF)(i:Int)(j:Int)(out:List Int):Option (ByteArray):=
 bif (decide (i<j)) then
  (idx out j).bind fun _=>
  (out[j.toNat]?).bind fun v0=>
  (idx out i).bind fun _=>
  (out[i.toNat]?).bind fun v1=>
  (idx out i).bind fun _=>
  (out[i.toNat]?).bind fun v2=>
  (idx (out.set i.toNat v0) j).bind fun _=>
  ((out.set i.toNat v0)[j.toNat]?).bind fun v3=>
  mu (IntKind.wrap .i64 (i+1)) (IntKind.wrap .i64 (j - 1)) ((out.set i.toNat v0).set j.toNat v1)
 else
  some (strOf out)
theorem yU (i j out):dF i j out=rL dF i j out:=(l1 83 3 _).trans (by kernel_rfl)
def xJ (rJ:af dD)(a:Bool×(List Int)×Unit):Option (ByteArray):=
 bif ((a.2.1.length:Int)==0) then
  some (bs [48])
 else
  let e0:Int:=(IntKind.wrap .i64 (9*(a.2.1.length:Int)))
  bif (iS 1 0 (IntKind.wrap .i64 (e0+1))) then
  rJ a.2.1 (a.2.1.length:Int) 0 ([]:List Int) a.1 a.2.1
  else none
theorem Dt (a):mM a=xJ dD a:=(e1 83 _).trans (by kernel_rfl)
def nI (td:af fw)(vn:af iX)(t:List Int)(t2:Int)(t3:Int)(out:List Int)(a:Bool)(a2:List Int)(b:Bool)(b2:List Int)(t4:Bool)(t5:List Int):Option (Bool×(List Int)×Unit):=
 bif (decide (t3<t2)) then
  (idx t t3).bind fun v0=>
  td t3 v0 0 t t2 t3 b2 (b2.length:Int) 0 out a a2 b b2 t4 t5
 else
  (vn (!(a==b)) out).bind fun r1=>
  some (r1.1,(r1.2.1,()))
theorem rM (t t2 t3 out a a2 b b2 t4 t5):dc t t2 t3 out a a2 b b2 t4 t5=nI fw iX t t2 t3 out a a2 b b2 t4 t5:=(l1 110 0 _).trans (by kernel_rfl)
def nJ (td:af fw)(te:af dc)(i:Int)(x:Int)(carry:Int)(t:List Int)(t2:Int)(t3:Int)(t4:List Int)(t5:Int)(t6:Int)(out:List Int)(a:Bool)(a2:List Int)(b:Bool)(b2:List Int)(t7:Bool)(t8:List Int):Option (Bool×(List Int)×Unit):=
 bif (decide (t6<t5)) then
  (idx t4 t6).bind fun v0=>
  let e1:Int:=(IntKind.wrap .u64 ((IntKind.wrap .u64 x)*(IntKind.wrap .u64 v0)))
  (idx out (IntKind.wrap .i64 (i+t6))).bind fun _=>
  (out[(IntKind.wrap .i64 (i+t6)).toNat]?).bind fun v2=>
  let e3:Int:=(IntKind.wrap .u64 (e1+(IntKind.wrap .u64 v2)))
  let e4:Int:=((IntKind.wrap .u64 (carry+e3)).tmod 1000000000)
  (idx out (IntKind.wrap .i64 (i+t6))).bind fun _=>
  (out[(IntKind.wrap .i64 (i+t6)).toNat]?).bind fun v5=>
  let e6:List Int:=(out.set (IntKind.wrap .i64 (i+t6)).toNat (IntKind.wrap .u32 e4))
  let e7:Int:=(IntKind.wrap .u64 ((IntKind.wrap .u64 (carry+e3)).tdiv 1000000000))
  td i x e7 t t2 t3 t4 t5 (IntKind.wrap .i64 (t6+1)) e6 a a2 b b2 t7 t8
 else
  (idx out (IntKind.wrap .i64 (i+(b2.length:Int)))).bind fun _=>
  (out[(IntKind.wrap .i64 (i+(b2.length:Int))).toNat]?).bind fun v8=>
  let e9:List Int:=(out.set (IntKind.wrap .i64 (i+(b2.length:Int))).toNat (IntKind.wrap .u32 carry))
  te t t2 (IntKind.wrap .i64 (t3+1)) e9 a a2 b b2 t7 t8
theorem rN (i x carry t t2 t3 t4 t5 t6 out a a2 b b2 t7 t8):fw i x carry t t2 t3 t4 t5 t6 out a a2 b b2 t7 t8=nJ fw dc i x carry t t2 t3 t4 t5 t6 out a a2 b b2 t7 t8:=(l1 110 1 _).trans (by kernel_rfl)
def zN (te:af dc)(a:Bool×(List Int)×Unit)(b:Bool×(List Int)×Unit):Option (Bool×(List Int)×Unit):=
 let e0:Int:=(IntKind.wrap .i64 ((a.2.1.length:Int)+(b.2.1.length:Int)))
 bif (iS 4 e0 e0) then
 te a.2.1 (a.2.1.length:Int) 0 (List.replicate e0.toNat 0) a.1 a.2.1 b.1 b.2.1 false ([]:List Int)
 else none
theorem E9 (a b):oY a b=zN dc a b:=(e1 110 _).trans (by kernel_rfl)
def GA (qm:af mN)(neg:Bool)(d:List Int):Option (Bool×(List Int)×Unit):=
 (qm d).bind fun r0=>
 bif neg then
  some ((decide ((r0.length:Int)>0)),(r0,()))
 else
  some (false,(r0,()))
theorem Lm (neg d):iX neg d=GA mN neg d:=(e1 113 _).trans (by kernel_rfl)
def yi (Eh:af nu)(a:List Int)(b:List Int)(i:Int):Option (Int):=
 bif (decide (i≥0)) then
  (idx a i).bind fun v0=>
  (idx b i).bind fun v1=>
  bif (v0 != v1) then
   (idx a i).bind fun v2=>
   (idx b i).bind fun v3=>
   bif (decide (v2<v3)) then
    some (-1)
   else
    some 1
  else
   Eh a b (IntKind.wrap .i64 (i - 1))
 else
  some 0
theorem BK (a b i):nu a b i=yi nu a b i:=(l1 114 0 _).trans (by kernel_rfl)
def Me (Eh:af nu)(a:List Int)(b:List Int):Option (Int):=
 bif ((a.length:Int) != (b.length:Int)) then
  bif (decide ((a.length:Int)<(b.length:Int))) then
   some (-1)
  else
   some 1
 else
  let e0:Int:=(IntKind.wrap .i64 ((a.length:Int) - 1))
  Eh a b e0
theorem Qs (a b):yO a b=Me nu a b:=(e1 114 _).trans (by kernel_rfl)
def BL (BM:af ly)(x:Int)(y:Int):Option (Int):=
 bif (decide (y>0)) then
  bif (!(y==0)) then
  BM y (x.tmod y)
  else none
 else
  some x
theorem He (x y):ly x y=BL ly x y:=(l1 115 0 _).trans (by kernel_rfl)
def IP (BM:af ly)(x:Int)(y:Int):Option (Int):=
 BM x y
theorem NM (x y):EU x y=IP ly x y:=(e1 115 _).trans (by kernel_rfl)
def jG (Ei:af qh)(d:List Int)(n:Int)(i:Int):Option (Int):=
 bif (decide (i≥0)) then
  (idx d i).bind fun v0=>
  let e1:Int:=(IntKind.wrap .i64 ((IntKind.wrap .i64 (n*1000000000))+(IntKind.wrap .i64 v0)))
  Ei d e1 (IntKind.wrap .i64 (i - 1))
 else
  some n
theorem j6 (d n i):qh d n i=jG qh d n i:=(l1 116 0 _).trans (by kernel_rfl)
def Mf (Ei:af qh)(d:List Int):Option (Int):=
 let e0:Int:=(IntKind.wrap .i64 ((d.length:Int) - 1))
 Ei d 0 e0
theorem Qt (d):EV d=Mf qh d:=(e1 116 _).trans (by kernel_rfl)
def IQ (Gz:af yO)(IS:af tX)(qm:af mN)(aa2:af EW)(a:List Int)(b:List Int):Option ((List Int)×List Int):=
 (Gz a b).bind fun r0=>
 bif (decide (r0<0)) then
  some (([]:List Int),a)
 else
  bif ((b.length:Int)==1) then
   (idx b 0).bind fun v1=>
   (IS a v1).bind fun r2=>
   (qm ([r2.2]:List Int)).bind fun r3=>
   some (r2.1,r3)
  else
   (aa2 a b).bind fun r4=>
   some (r4.1,r4.2)
theorem NN (a b):xz a b=IQ yO tX mN EW a b:=(e1 117 _).trans (by kernel_rfl)
def yj (Ej:af nv)(d:List Int):Option (List Int):=
 bif (decide ((d.length:Int)>0)) then
  let e0:Int:=(IntKind.wrap .i64 ((d.length:Int) - 1))
  (idx d e0).bind fun v1=>
  bif (v1==0) then
   let e2:Int:=(IntKind.wrap .i64 ((d.length:Int) - 1))
   bif (c8 d.length 0 e2) then
   Ej (cut d 0 e2)
   else none
  else
   some d
 else
  some d
theorem BN (d):nv d=yj nv d:=(l1 118 0 _).trans (by kernel_rfl)
def Mg (Ej:af nv)(d:List Int):Option (List Int):=
 Ej d
theorem Qu (d):mN d=Mg nv d:=(e1 118 _).trans (by kernel_rfl)
def xK (Fa:af mQ)(a:(Bool×(List Int)×Unit)×(Bool×(List Int)×Unit)×Unit):Option (Bool):=
 (Fa (a.1.1,(a.1.2.1,()))).bind fun r0=>
 bif r0 then
  some true
 else
  (Fa (a.2.1.1,(a.2.1.2.1,()))).bind fun r1=>
  some r1
theorem Du (a):mO a=xK mQ a:=(e1 149 _).trans (by kernel_rfl)
def vo (BO:af lz)(a:List Int)(b:Int)(rest:Int)(i:Int)(out:List Int):Option ((List Int)×Int):=
 bif (decide (i≥0)) then
  (idx a i).bind fun v0=>
  let e1:Int:=(IntKind.wrap .u64 ((IntKind.wrap .u64 (rest*1000000000))+(IntKind.wrap .u64 v0)))
  bif (!((IntKind.wrap .u64 b)==0)) then
  let e2:Int:=(IntKind.wrap .u64 (e1.tdiv (IntKind.wrap .u64 b)))
  bif (!((IntKind.wrap .u64 b)==0)) then
  (idx out i).bind fun _=>
  (out[i.toNat]?).bind fun v3=>
  BO a b (e1.tmod (IntKind.wrap .u64 b)) (IntKind.wrap .i64 (i - 1)) (out.set i.toNat (IntKind.wrap .u32 e2))
  else none
  else none
 else
  some (out,(IntKind.wrap .u32 rest))
theorem zO (a b rest i out):lz a b rest i out=vo lz a b rest i out:=(l1 152 0 _).trans (by kernel_rfl)
def IT (BO:af lz)(a:List Int)(b:Int):Option ((List Int)×Int):=
 bif (iS 4 (a.length:Int) (a.length:Int)) then
 let e0:List Int:=(List.replicate (a.length:Int).toNat 0)
 let e1:Int:=(IntKind.wrap .i64 ((a.length:Int) - 1))
 BO a b 0 e1 e0
 else none
theorem NO (a b):tX a b=IT lz a b:=(e1 152 _).trans (by kernel_rfl)
def yk (yl:af jE)(IS:af tX)(k:Int)(v:List Int)(n:Int)(j:Int)(q:List Int)(u:List Int):Option ((List Int)×List Int):=
 bif (decide (j≥0)) then
  (idx u (IntKind.wrap .i64 (j+n))).bind fun _=>
  (u[(IntKind.wrap .i64 (j+n)).toNat]?).bind fun v0=>
  let e1:Int:=(IntKind.wrap .u64 ((IntKind.wrap .u64 v0)*1000000000))
  let e2:Int:=(IntKind.wrap .i64 ((IntKind.wrap .i64 (j+n)) - 1))
  (idx u e2).bind fun _=>
  (u[e2.toNat]?).bind fun v3=>
  let e4:Int:=(IntKind.wrap .u64 (e1+(IntKind.wrap .u64 v3)))
  (idx v (IntKind.wrap .i64 (n - 1))).bind fun v5=>
  bif (!((IntKind.wrap .u64 v5)==0)) then
  let e6:Int:=(IntKind.wrap .u64 (e4.tdiv (IntKind.wrap .u64 v5)))
  (idx v (IntKind.wrap .i64 (n - 1))).bind fun v7=>
  bif (!((IntKind.wrap .u64 v7)==0)) then
  yl k v n j e6 (e4.tmod (IntKind.wrap .u64 v7)) q u
  else none
  else none
 else
  bif (c8 u.length 0 n) then
  (IS (u.take n.toNat) k).bind fun r8=>
  some (q,r8.1)
  else none
theorem BP (k v n j q u):eJ k v n j q u=yk jE tX k v n j q u:=(l1 153 0 _).trans (by kernel_rfl)
def ym (jH:af gi)(yl:af jE)(k:Int)(v:List Int)(n:Int)(j:Int)(guess:Int)(rest:Int)(q:List Int)(u:List Int):Option ((List Int)×List Int):=
 bif (decide (guess≥1000000000)) then
  (idx v (IntKind.wrap .i64 (n - 1))).bind fun v0=>
  let e1:Int:=(IntKind.wrap .u64 (rest+(IntKind.wrap .u64 v0)))
  bif (decide (e1≥1000000000)) then
   jH k v n j (IntKind.wrap .u64 (guess - 1)) 0 n 0 q u
  else
   yl k v n j (IntKind.wrap .u64 (guess - 1)) e1 q u
 else
  (idx v (IntKind.wrap .i64 (n - 2))).bind fun v2=>
  let e3:Int:=(IntKind.wrap .u64 (guess*(IntKind.wrap .u64 v2)))
  let e4:Int:=(IntKind.wrap .i64 ((IntKind.wrap .i64 (j+n)) - 2))
  (idx u e4).bind fun _=>
  (u[e4.toNat]?).bind fun v5=>
  let e6:Int:=(IntKind.wrap .u64 ((IntKind.wrap .u64 (rest*1000000000))+(IntKind.wrap .u64 v5)))
  bif (decide (e3>e6)) then
   (idx v (IntKind.wrap .i64 (n - 1))).bind fun v7=>
   let e8:Int:=(IntKind.wrap .u64 (rest+(IntKind.wrap .u64 v7)))
   bif (decide (e8≥1000000000)) then
    jH k v n j (IntKind.wrap .u64 (guess - 1)) 0 n 0 q u
   else
    yl k v n j (IntKind.wrap .u64 (guess - 1)) e8 q u
  else
   jH k v n j guess 0 n 0 q u
theorem BQ (k v n j guess rest q u):jE k v n j guess rest q u=ym gi jE k v n j guess rest q u:=(l1 153 1 _).trans (by kernel_rfl)
def yn (jH:af gi)(Ek:af lA)(sC:af eJ)(k:Int)(v:List Int)(n:Int)(j:Int)(guess:Int)(borrow:Int)(t:Int)(t2:Int)(q:List Int)(u:List Int):Option ((List Int)×List Int):=
 bif (decide (t2<t)) then
  (idx u (IntKind.wrap .i64 (t2+j))).bind fun _=>
  (u[(IntKind.wrap .i64 (t2+j)).toNat]?).bind fun v0=>
  let e1:Int:=(IntKind.wrap .i64 ((IntKind.wrap .i64 v0) - borrow))
  (idx v t2).bind fun v2=>
  let e3:Int:=(IntKind.wrap .i64 ((IntKind.wrap .i64 guess)*(IntKind.wrap .i64 v2)))
  let e4:Int:=(IntKind.wrap .i64 (e1 - (e3.tmod 1000000000)))
  (idx v t2).bind fun v5=>
  let e6:Int:=(IntKind.wrap .i64 ((IntKind.wrap .i64 guess)*(IntKind.wrap .i64 v5)))
  bif (decide (e4<0)) then
   let e7:Int:=(IntKind.wrap .i64 ((IntKind.wrap .i64 (e6.tdiv 1000000000))+1))
   bif (decide ((IntKind.wrap .i64 (e4+1000000000))<0)) then
    let e8:Int:=(IntKind.wrap .i64 ((IntKind.wrap .i64 (e4+1000000000))+1000000000))
    (idx u (IntKind.wrap .i64 (t2+j))).bind fun _=>
    (u[(IntKind.wrap .i64 (t2+j)).toNat]?).bind fun v9=>
    let Y0:List Int:=(u.set (IntKind.wrap .i64 (t2+j)).toNat (IntKind.wrap .u32 e8))
    jH k v n j guess (IntKind.wrap .i64 (e7+1)) t (IntKind.wrap .i64 (t2+1)) q Y0
   else
    let Uh:Int:=(IntKind.wrap .u32 (IntKind.wrap .i64 (e4+1000000000)))
    (idx u (IntKind.wrap .i64 (t2+j))).bind fun _=>
    (u[(IntKind.wrap .i64 (t2+j)).toNat]?).bind fun v12=>
    jH k v n j guess e7 t (IntKind.wrap .i64 (t2+1)) q (u.set (IntKind.wrap .i64 (t2+j)).toNat Uh)
  else
   bif (decide (e4<0)) then
    let WU:Int:=(IntKind.wrap .i64 ((IntKind.wrap .i64 (e6.tdiv 1000000000))+1))
    let e14:Int:=(IntKind.wrap .u32 (IntKind.wrap .i64 (e4+1000000000)))
    (idx u (IntKind.wrap .i64 (t2+j))).bind fun _=>
    (u[(IntKind.wrap .i64 (t2+j)).toNat]?).bind fun v15=>
    jH k v n j guess WU t (IntKind.wrap .i64 (t2+1)) q (u.set (IntKind.wrap .i64 (t2+j)).toNat e14)
   else
    (idx u (IntKind.wrap .i64 (t2+j))).bind fun _=>
    (u[(IntKind.wrap .i64 (t2+j)).toNat]?).bind fun v16=>
    let e17:List Int:=(u.set (IntKind.wrap .i64 (t2+j)).toNat (IntKind.wrap .u32 e4))
    jH k v n j guess (IntKind.wrap .i64 (e6.tdiv 1000000000)) t (IntKind.wrap .i64 (t2+1)) q e17
 else
  (idx u (IntKind.wrap .i64 (j+n))).bind fun _=>
  (u[(IntKind.wrap .i64 (j+n)).toNat]?).bind fun v18=>
  let e19:Int:=(IntKind.wrap .i64 ((IntKind.wrap .i64 v18) - borrow))
  bif (decide (e19<0)) then
   Ek k v n j (IntKind.wrap .u64 (guess - 1)) e19 0 n 0 q u
  else
   (idx u (IntKind.wrap .i64 (j+n))).bind fun _=>
   (u[(IntKind.wrap .i64 (j+n)).toNat]?).bind fun v20=>
   let e21:List Int:=(u.set (IntKind.wrap .i64 (j+n)).toNat 0)
   (idx q j).bind fun _=>
   (q[j.toNat]?).bind fun v22=>
   sC k v n (IntKind.wrap .i64 (j - 1)) (q.set j.toNat (IntKind.wrap .u32 guess)) e21
theorem BR (k v n j guess borrow t t2 q u):gi k v n j guess borrow t t2 q u=yn gi lA eJ k v n j guess borrow t t2 q u:=(l1 153 2 _).trans (by kernel_rfl)
def yo (Ek:af lA)(sC:af eJ)(k:Int)(v:List Int)(n:Int)(j:Int)(guess:Int)(x:Int)(carry:Int)(t:Int)(t2:Int)(q:List Int)(u:List Int):Option ((List Int)×List Int):=
 bif (decide (t2<t)) then
  (idx u (IntKind.wrap .i64 (t2+j))).bind fun _=>
  (u[(IntKind.wrap .i64 (t2+j)).toNat]?).bind fun v0=>
  (idx v t2).bind fun v1=>
  let e2:Int:=(IntKind.wrap .u32 ((IntKind.wrap .u32 (v0+v1))+carry))
  (idx u (IntKind.wrap .i64 (t2+j))).bind fun _=>
  (u[(IntKind.wrap .i64 (t2+j)).toNat]?).bind fun v3=>
  let e4:List Int:=(u.set (IntKind.wrap .i64 (t2+j)).toNat (e2.tmod 1000000000))
  Ek k v n j guess x (IntKind.wrap .u32 (e2.tdiv 1000000000)) t (IntKind.wrap .i64 (t2+1)) q e4
 else
  let e5:Int:=(IntKind.wrap .i64 (x+(IntKind.wrap .i64 carry)))
  (idx u (IntKind.wrap .i64 (j+n))).bind fun _=>
  (u[(IntKind.wrap .i64 (j+n)).toNat]?).bind fun v6=>
  let e7:List Int:=(u.set (IntKind.wrap .i64 (j+n)).toNat 0)
  (idx q j).bind fun _=>
  (q[j.toNat]?).bind fun v8=>
  sC k v n (IntKind.wrap .i64 (j - 1)) (q.set j.toNat (IntKind.wrap .u32 guess)) e7
theorem BS (k v n j guess x carry t t2 q u):lA k v n j guess x carry t t2 q u=yo lA eJ k v n j guess x carry t t2 q u:=(l1 153 3 _).trans (by kernel_rfl)
def Mh (sC:af eJ)(NP:af xA)(qm:af mN)(a:List Int)(b:List Int):Option ((List Int)×List Int):=
 let e0:Int:=(IntKind.wrap .i64 ((b.length:Int) - 1))
 (idx b e0).bind fun v1=>
 let e2:Int:=(IntKind.wrap .u64 ((IntKind.wrap .u64 v1)+1))
 bif (!(e2==0)) then
 let e3:Int:=(IntKind.wrap .u32 (IntKind.wrap .u64 ((1000000000:Int).tdiv e2)))
 (NP a e3).bind fun r4=>
 (NP b e3).bind fun r5=>
 (qm r5).bind fun r6=>
 let e7:Int:=(IntKind.wrap .i64 ((r4.length:Int) - (r6.length:Int)))
 bif (iS 4 e7 e7) then
 let e8:Int:=(IntKind.wrap .i64 ((r4.length:Int) - (r6.length:Int)))
 sC e3 r6 (r6.length:Int) (IntKind.wrap .i64 (e8 - 1)) (List.replicate e7.toNat 0) r4
 else none
 else none
theorem Qv (a b):EW a b=Mh eJ xA mN a b:=(e1 153 _).trans (by kernel_rfl)
def xL (Mi:af gT)(a:Bool×(List Int)×Unit):Option (Bool):=
 (Mi (a.1,(a.2.1,()))).bind fun r0=>
 some (decide (r0>1000))
theorem Dw (a):mQ a=xL gT a:=(e1 164 _).trans (by kernel_rfl)
def sY (zP:af jF)(k:Int)(carry:Int)(t:List Int)(t2:Int)(t3:Int)(out:List Int):Option (List Int):=
 bif (decide (t3<t2)) then
  (idx t t3).bind fun v0=>
  let e1:Int:=(IntKind.wrap .u64 ((IntKind.wrap .u64 v0)*(IntKind.wrap .u64 k)))
  let e2:Int:=((IntKind.wrap .u64 (carry+e1)).tmod 1000000000)
  bif (aE 4 1 out.length 1) then
  let e3:Int:=(IntKind.wrap .u64 ((IntKind.wrap .u64 (carry+e1)).tdiv 1000000000))
  zP k e3 t t2 (IntKind.wrap .i64 (t3+1)) (out++([(IntKind.wrap .u32 e2)]:List Int))
  else none
 else
  bif (aE 4 1 out.length 1) then
  let e4:List Int:=(out++([(IntKind.wrap .u32 carry)]:List Int))
  some e4
  else none
theorem xM (k carry t t2 t3 out):jF k carry t t2 t3 out=sY jF k carry t t2 t3 out:=(l1 170 0 _).trans (by kernel_rfl)
def GB (zP:af jF)(a:List Int)(k:Int):Option (List Int):=
 let e0:Int:=(IntKind.wrap .i64 ((a.length:Int)+1))
 bif (iS 4 0 e0) then
 zP k 0 a (a.length:Int) 0 ([]:List Int)
 else none
theorem Lo (a k):xA a k=GB jF a k:=(e1 170 _).trans (by kernel_rfl)
def o9 (pa:af dr)(n:Int)(x:Int):Option (Int):=
 bif (decide (x>0)) then
  pa (IntKind.wrap .i64 (n+1)) (IntKind.wrap .u32 (x.tdiv 10))
 else
  some n
theorem vp (n x):dr n x=o9 dr n x:=(l1 176 0 _).trans (by kernel_rfl)
def tf (pa:af dr)(a:Bool×(List Int)×Unit):Option (Int):=
 bif ((a.2.1.length:Int)==0) then
  some 0
 else
  let e0:Int:=(IntKind.wrap .i64 ((a.2.1.length:Int) - 1))
  let e1:Int:=(IntKind.wrap .i64 ((a.2.1.length:Int) - 1))
  (idx a.2.1 e1).bind fun v2=>
  pa (IntKind.wrap .i64 (9*e0)) v2
theorem Ae (a):gT a=tf dr a:=(e1 176 _).trans (by kernel_rfl)
end
end Go.Proofs.YtofjebmoebhiiaaGreatDoor.Ev
namespace Go.Proofs.YtofjebmoebhiiaaGreatDoor.Ev
open Go.Abs
noncomputable section
def Em (WV:af Br)(a:ByteArray):Option (Bool):=
 (WV a).bind fun r0=>
 some r0.2
theorem IU (a):tS a=Em Br a:=(e1 68 _).trans (by kernel_rfl)
def GC (sy:af gg)(Po:af mO)(a:ByteArray):Option (((Bool×(List Int)×Unit)×(Bool×(List Int)×Unit)×Unit)×Bool):=
 (sy a).bind fun r0=>
 bif r0.2 then
  (Po ((r0.1.1.1,(r0.1.1.2.1,())),((r0.1.2.1.1,(r0.1.2.1.2.1,())),()))).bind fun r1=>
  some (((r0.1.1.1,(r0.1.1.2.1,())),((r0.1.2.1.1,(r0.1.2.1.2.1,())),())),(!r1))
 else
  some (((r0.1.1.1,(r0.1.1.2.1,())),((r0.1.2.1.1,(r0.1.2.1.2.1,())),())),false)
theorem Lp (a):Br a=GC gg mO a:=(e1 108 _).trans (by kernel_rfl)
end
end Go.Proofs.YtofjebmoebhiiaaGreatDoor.Ev
namespace Go.Proofs.YtofjebmoebhiiaaGreatDoor.Ev
open Go.Abs
noncomputable section
def lX (GD:af iD)(s:cQ)(f:Int):Option (Bool):=
 (GD s f).bind fun r0=>
 some (decide (r0≥0))
theorem rm (s f):ef s f=lX iD s f:=(e1 100070 _).trans (by kernel_rfl)
def lY (GF:af iE)(s:cQ)(f:mj×zqC):Option (Bool):=
 (GF s ((f.1.1,(f.1.2.1,())),(f.2.1,(f.2.2.1,(f.2.2.2.1,()))))).bind fun r0=>
 some (decide (r0≥0))
theorem rq (s f):eg s f=lY iE s f:=(e1 100071 _).trans (by kernel_rfl)
def gw (kV:af bO)(Q5:af sr)(s:cQ)(f:Int)(t:Int)(t2:Int):Option (Int):=
 bif (decide (t2<t)) then
  (idx s t2).bind fun v0=>
  (Q5 (v0.1,(v0.2.1,())) f).bind fun r1=>
  bif r1 then
   some t2
  else
   kV s f t (IntKind.wrap .i64 (t2+1))
 else
  some (-1)
theorem j7 (s f t t2):bO s f t t2=gw bO sr s f t t2:=(l1 100109 0 _).trans (by kernel_rfl)
def nK (kV:af bO)(s:cQ)(f:Int):Option (Int):=
 kV s f (s.length:Int) 0
theorem ua (s f):iD s f=nK bO s f:=(e1 100109 _).trans (by kernel_rfl)
def gz (kW:af bP)(Q6:af su)(s:cQ)(f:Int)(f2:xx)(f3:Int)(f4:ByteArray)(f5:cQ)(t:Int)(t2:Int):Option (Int):=
 bif (decide (t2<t)) then
  (idx s t2).bind fun v0=>
  (Q6 (v0.1,(v0.2.1,())) (f,(f2,())) (f3,(f4,(f5,())))).bind fun r1=>
  bif r1 then
   some t2
  else
   kW s f f2 f3 f4 f5 t (IntKind.wrap .i64 (t2+1))
 else
  some (-1)
theorem j8 (s f f2 f3 f4 f5 t t2):bP s f f2 f3 f4 f5 t t2=gz bP su s f f2 f3 f4 f5 t t2:=(l1 100110 0 _).trans (by kernel_rfl)
def nL (kW:af bP)(s:cQ)(f:mj×zqC):Option (Int):=
 kW s f.1.1 f.1.2.1 f.2.1 f.2.2.1 f.2.2.2.1 (s.length:Int) 0
theorem ub (s f):iE s f=nL bP s f:=(e1 100110 _).trans (by kernel_rfl)
end
end Go.Proofs.YtofjebmoebhiiaaGreatDoor.Ev
namespace Go.Proofs.YtofjebmoebhiiaaGreatDoor.Ev
open Go.Abs
noncomputable section
def En (NQ:af oL)(s:ByteArray)(sep:ByteArray):Option (ByteArray×ByteArray×Bool):=
 (NQ s sep).bind fun r0=>
 some (r0.1,r0.2.1,r0.2.2)
theorem IV (s sep):tU s sep=En oL s sep:=(e1 75 _).trans (by kernel_rfl)
def rO (Fb:af gE)(s:ByteArray)(fa:ByteArray):Option (ByteArray×Bool):=
 (Fb s fa).bind fun r0=>
 some (r0.1,r0.2)
theorem yV (s fa):iJ s fa=rO gE s fa:=(e1 112 _).trans (by kernel_rfl)
end
end Go.Proofs.YtofjebmoebhiiaaGreatDoor.Ev
namespace Go.Proofs.YtofjebmoebhiiaaGreatDoor.Ev
open Go.Abs
noncomputable section
def vq (Kt:af iM)(s:ByteArray)(sep:ByteArray):Option (ByteArray×ByteArray×Bool):=
 (Kt s sep).bind fun r0=>
 bif (decide (r0≥0)) then
  bif (c8 s.size 0 r0) then
  bif (c8 s.size (IntKind.wrap .i64 (r0+(sep.size:Int))) (s.size:Int)) then
  let e1:ByteArray:=(s.extract (IntKind.wrap .i64 (r0+(sep.size:Int))).toNat (s.size:Int).toNat)
  some ((s.extract (0:Int).toNat r0.toNat),e1,true)
  else none
  else none
 else
  some (s,ByteArray.empty,false)
theorem BT (s sep):oL s sep=vq iM s sep:=(e1 111 _).trans (by kernel_rfl)
def rP (Fc:af eO)(s:ByteArray)(substr:ByteArray):Option (Int):=
 bif ((substr.size:Int)==0) then
  some 0
 else
  bif (substr.toList==s.toList) then
   some 0
  else
   bif ((substr.size:Int)==1) then
    (zt substr 0).bind fun v0=>
    (Fc s v0).bind fun r1=>
    some r1
   else
    bif (decide ((substr.size:Int)≥(s.size:Int))) then
    some (-1)
    else none
theorem yW (s substr):iM s substr=rP eO s substr:=(e1 150 _).trans (by kernel_rfl)
def mV (Fe:af gF)(s:ByteArray)(fa:ByteArray):Option (ByteArray×Bool):=
 (Fe s fa).bind fun r0=>
 bif (!r0) then
  some (s,false)
 else
  bif (c8 s.size (fa.size:Int) (s.size:Int)) then
  let e1:ByteArray:=(s.extract (fa.size:Int).toNat (s.size:Int).toNat)
  some (e1,true)
  else none
theorem sD (s fa):gE s fa=mV gF s fa:=(e1 151 _).trans (by kernel_rfl)
def mW (s:ByteArray)(fa:ByteArray):Option (Bool):=
 bif (decide ((s.size:Int)≥(fa.size:Int))) then
  bif (c8 s.size 0 (fa.size:Int)) then
  let e0:ByteArray:=(s.extract (0:Int).toNat (fa.size:Int).toNat)
  some (e0.toList==fa.toList)
  else none
 else
  some false
theorem sE (s fa):gF s fa=mW s fa:=(e1 169 _).trans (by kernel_rfl)
end
end Go.Proofs.YtofjebmoebhiiaaGreatDoor.Ev
namespace Go.Proofs.YtofjebmoebhiiaaGreatDoor.Ev
open Go.Abs
noncomputable section
end
end Go.Proofs.YtofjebmoebhiiaaGreatDoor.Ev
namespace Go.Proofs.YtofjebmoebhiiaaGreatDoor.Ev
open Go.Abs
noncomputable section
def iZ (db:af cE)(n:Int)(m:cQ)(t:cQ)(t2:Int)(t3:Int):Option (Bool):=
 bif (decide (t3<t2)) then
  (idx t t3).bind fun v0=>
  let e1:Int:=(IntKind.wrap .i64 ((IntKind.wrap .i64 (n - 1)) - v0.2.1))
  let e2:Int:=(IntKind.wrap .i64 ((IntKind.wrap .i64 (n - 1)) - v0.1))
  bif (decide (v0.2.1<0)) then
   let e3:Int:=(IntKind.wrap .i64 ((IntKind.wrap .i64 (n - 1)) - v0.1))
   db n m false t t2 t3 m (m.length:Int) 0 e3 (-1)
  else
   db n m false t t2 t3 m (m.length:Int) 0 e1 e2
 else
  some true
theorem nx (n m t t2 t3):bG n m t t2 t3=iZ cE n m t t2 t3:=(l1 9 0 _).trans (by kernel_rfl)
def i6 (db:af cE)(i7:af bG)(n:Int)(m:cQ)(found:Bool)(t:cQ)(t2:Int)(t3:Int)(t4:cQ)(t5:Int)(t6:Int)(q:Int)(q2:Int):Option (Bool):=
 bif (decide (t6<t5)) then
  (idx t4 t6).bind fun v0=>
  bif found then
   db n m true t t2 t3 t4 t5 (IntKind.wrap .i64 (t6+1)) q q2
  else
   db n m (Bb yT (v0.1,(v0.2.1,())) (q,(q2,()))) t t2 t3 t4 t5 (IntKind.wrap .i64 (t6+1)) q q2
 else
  bif (!found) then
   some false
  else
   i7 n m t t2 (IntKind.wrap .i64 (t3+1))
theorem ny (n m found t t2 t3 t4 t5 t6 q q2):cE n m found t t2 t3 t4 t5 t6 q q2=i6 cE bG n m found t t2 t3 t4 t5 t6 q q2:=(l1 9 1 _).trans (by kernel_rfl)
def ry (i7:af bG)(Mj:af jJ)(Mk:af qM)(vd:af lT)(q8:af fJ)(raw:(List (List Int))×(List Int)×Int×(List Int)×Unit):Option (Bool):=
 Mj.bind fun r0=>
 bif (!r0) then
  some false
 else
  (Mk (raw.1,(raw.2.1,(raw.2.2.1,(raw.2.2.2.1,())))) 24).bind fun r1=>
  (vd (r1.1,(r1.2.1,()))).bind fun r2=>
  (q8 (r1.1,(r1.2.1,()))).bind fun r3=>
  (q8 (r2.1.1,(r2.1.2.1,()))).bind fun r4=>
  bif (r2.2 != 0) then
   some false
  else
   bif (r3.2.2 != 0) then
    some false
   else
    bif (r4.2.2 != 0) then
     some false
    else
     bif ((r3.1.length:Int) != (r4.1.length:Int)) then
      some false
     else
      i7 (r1.2.1.length:Int) r4.1 r3.1 (r3.1.length:Int) 0
theorem BU (raw):mI raw=ry bG jJ qM lT fJ raw:=(e1 9 _).trans (by kernel_rfl)
def BV (lE:af jY)(q8:af fJ)(Uo:af yM)(Ml:af mJ)(vd:af lT)(nM:af iz)(IW:af u5)(uc:af gC):Option (Bool):=
 let e0:cQ:=([(0,((-1),())),(1,(3,())),(2,(4,())),(5,(6,()))]:cQ)
 lE.bind fun r1=>
 (q8 (r1.1,(r1.2.1,()))).bind fun r2=>
 lE.bind fun r3=>
 (Uo (r3.1,(r3.2.1,()))).bind fun r4=>
 lE.bind fun r5=>
 (Ml (r5.1,(r5.2.1,()))).bind fun r6=>
 lE.bind fun r7=>
 (vd (r7.1,(r7.2.1,()))).bind fun r8=>
 bif (r2.2.2==0) then
  bif (r4.2.2==0) then
   bif (r6.2.2==0) then
    bif (r8.2==0) then
     (nM r2.1 e0).bind fun r9=>
     bif r9 then
      (nM r4.1 e0).bind fun M4=>
      bif M4 then
       (nM r6.1 e0).bind fun r11=>
       bif r11 then
        bif (Bb yT (r2.2.1.1,(r2.2.1.2.1,())) (2,(0,()))) then
         bif (Bb yT (r4.2.1.1,(r4.2.1.2.1,())) (0,(3,()))) then
          bif (Bb yT (r6.2.1.1,(r6.2.1.2.1,())) (2,(3,()))) then
           bif ((r8.1.2.1.length:Int)==7) then
            (idx r8.1.2.1 0).bind fun v12=>
            bif (v12.1==2) then
             (idx r8.1.2.1 1).bind fun v13=>
             bif (v13.2.1.toList==(bs [45,50]).toList) then
              (idx r8.1.2.1 1).bind fun v14=>
              (IW ([0,(2:Int)]:List Int)).bind fun r15=>
              (uc v14.2.2.1 r15).bind fun r16=>
              bif r16 then
               (idx r8.1.2.1 4).bind fun v17=>
               bif (v17.1==4) then
                (idx r8.1.2.1 4).bind fun v18=>
                bif (v18.2.1.toList==(bs [45,49,47,50]).toList) then
                 (idx r8.1.2.1 4).bind fun v19=>
                 let e20:List Int:=([1,(1:Int),(2:Int),(1:Int)]:List Int)
                 (IW e20).bind fun r21=>
                 (uc v19.2.2.1 r21).bind fun r22=>
                 some r22
                else
                 some false
               else
                some false
              else
               some false
             else
              some false
            else
             some false
           else
            some false
          else
           some false
         else
          some false
        else
         some false
       else
        some false
      else
       some false
     else
      some false
    else
     some false
   else
    some false
  else
   some false
 else
  some false
theorem Ku:jJ=BV jY fJ yM mJ lT iz u5 gC:=(Di T B lf 13 ()).trans (by kernel_rfl)
def yX (zQ:af jz):Option mj:=
 let e0:List ((List Int)×ByteArray×Unit):=([(([0]:List Int),((bs [48]),())),(([1]:List Int),((bs [48]),())),(([2]:List Int),((bs [49,47,50]),())),(([0,(1:Int)]:List Int),((bs [49]),())),(([1,(2:Int)]:List Int),((bs [49]),())),(([0,(2:Int)]:List Int),((bs [50]),())),(([0,(1:Int),(2:Int)]:List Int),((bs [51]),()))]:List ((List Int)×ByteArray×Unit))
 (zQ e0 3).bind fun r1=>
 some (r1.1.1,(r1.1.2.1,()))
theorem HE:jY=yX jz:=(Di T B lf 28 ()).trans (by kernel_rfl)
def Dx (vr:af iU)(l:List Int)(i:Int)(out:cQ):Option cQ:=
 bif (decide ((IntKind.wrap .i64 (i+1))<(l.length:Int))) then
  (idx l i).bind fun v0=>
  (idx l (IntKind.wrap .i64 (i+1))).bind fun v1=>
  bif (aE 16 2 out.length 1) then
  let e2:cQ:=(out++([(v0,(v1,()))]:cQ))
  vr l (IntKind.wrap .i64 (i+2)) e2
  else none
 else
  some out
theorem Mm (l i out):iU l i out=Dx iU l i out:=(l1 31 0 _).trans (by kernel_rfl)
def IX (vr:af iU)(l:List Int):Option cQ:=
 vr l 0 ([]:cQ)
theorem Q7 (l):u5 l=IX iU l:=(e1 31 _).trans (by kernel_rfl)
end
end Go.Proofs.YtofjebmoebhiiaaGreatDoor.Ev
namespace Go.Proofs.YtofjebmoebhiiaaGreatDoor.Ev
open Go.Abs
noncomputable section
def pb (aj:af aq)(ax:af al)(a:ByteArray):Option (ByteArray):=
 (aj a).bind fun r0=>
 (ax (!r0.1) r0.2).bind fun r1=>
 some r1
theorem vt (a):di a=pb aq al a:=(e1 66 _).trans (by kernel_rfl)
def qp (aj:af aq)(fK:af da)(a:ByteArray)(b:ByteArray):Option (Int):=
 (aj a).bind fun r0=>
 (aj b).bind fun r1=>
 bif (!(r0.1==r1.1)) then
  bif r0.1 then
   some (-1)
  else
   some 1
 else
  bif r0.1 then
   (fK r1.2 r0.2).bind fun r2=>
   some r2
  else
   (fK r0.2 r1.2).bind fun r3=>
   some r3
theorem wM (a b):bJ a b=qp aq da a b:=(e1 104 _).trans (by kernel_rfl)
def kt (pc:af dj)(pd:af cA)(p:Bool)(x:List Int)(q:Bool)(y:List Int)(i:Int)(out:List Int):Option (ByteArray):=
 bif (decide (i<(x.length:Int))) then
  pc p x q y i 0 out
 else
  pd p q 0 out
theorem nN (p x q y i out):bu p x q y i out=kt dj cA p x q y i out:=(l1 105 0 _).trans (by kernel_rfl)
def ku (pc:af dj)(kv:af bu)(p:Bool)(x:List Int)(q:Bool)(y:List Int)(i:Int)(k:Int)(out:List Int):Option (ByteArray):=
 bif (decide (k<(y.length:Int))) then
  (idx out (IntKind.wrap .i64 (i+k))).bind fun _=>
  (out[(IntKind.wrap .i64 (i+k)).toNat]?).bind fun v0=>
  (idx x i).bind fun v1=>
  (idx y k).bind fun v2=>
  let e3:Int:=(IntKind.wrap .i64 (v0+(IntKind.wrap .i64 (v1*v2))))
  (idx out (IntKind.wrap .i64 (i+k))).bind fun _=>
  (out[(IntKind.wrap .i64 (i+k)).toNat]?).bind fun v4=>
  pc p x q y i (IntKind.wrap .i64 (k+1)) (out.set (IntKind.wrap .i64 (i+k)).toNat e3)
 else
  kv p x q y (IntKind.wrap .i64 (i+1)) out
theorem nO (p x q y i k out):dj p x q y i k out=ku dj bu p x q y i k out:=(l1 105 1 _).trans (by kernel_rfl)
def kx (pd:af cA)(ax:af al)(p:Bool)(q:Bool)(i:Int)(out:List Int):Option (ByteArray):=
 bif (decide ((IntKind.wrap .i64 (i+1))<(out.length:Int))) then
  (idx out (IntKind.wrap .i64 (i+1))).bind fun _=>
  (out[(IntKind.wrap .i64 (i+1)).toNat]?).bind fun v0=>
  (idx out i).bind fun _=>
  (out[i.toNat]?).bind fun v1=>
  let e2:Int:=(IntKind.wrap .i64 (v0+(IntKind.wrap .i64 (v1.tdiv 10))))
  (idx out (IntKind.wrap .i64 (i+1))).bind fun _=>
  (out[(IntKind.wrap .i64 (i+1)).toNat]?).bind fun v3=>
  let e4:List Int:=(out.set (IntKind.wrap .i64 (i+1)).toNat e2)
  (idx e4 i).bind fun _=>
  (e4[i.toNat]?).bind fun v5=>
  (idx e4 i).bind fun _=>
  (e4[i.toNat]?).bind fun v6=>
  pd p q (IntKind.wrap .i64 (i+1)) (e4.set i.toNat (v5.tmod 10))
 else
  (ax (!(p==q)) out).bind fun r7=>
  some r7
theorem nP (p q i out):cA p q i out=kx cA al p q i out:=(l1 105 2 _).trans (by kernel_rfl)
def tg (kv:af bu)(dS:af dd)(aQ:af bE)(aj:af aq)(a:ByteArray)(b:ByteArray):Option (ByteArray):=
 (dS a).bind fun r0=>
 (dS b).bind fun r1=>
 bif r0.2 then
  bif r1.2 then
   (aQ (IntKind.wrap .i64 (r0.1*r1.1))).bind fun r2=>
   some r2
  else
   (aj a).bind fun r3=>
   (aj b).bind fun r4=>
   let e5:Int:=(IntKind.wrap .i64 ((r3.2.length:Int)+(r4.2.length:Int)))
   bif (iS 8 (IntKind.wrap .i64 (e5+1)) (IntKind.wrap .i64 (e5+1))) then
   let e6:List Int:=(List.replicate (IntKind.wrap .i64 (e5+1)).toNat 0)
   kv r3.1 r3.2 r4.1 r4.2 0 e6
   else none
 else
  (aj a).bind fun r7=>
  (aj b).bind fun r8=>
  let e9:Int:=(IntKind.wrap .i64 ((r7.2.length:Int)+(r8.2.length:Int)))
  bif (iS 8 (IntKind.wrap .i64 (e9+1)) (IntKind.wrap .i64 (e9+1))) then
  let Y0:List Int:=(List.replicate (IntKind.wrap .i64 (e9+1)).toNat 0)
  kv r7.1 r7.2 r8.1 r8.2 0 Y0
  else none
theorem Af (a b):fu a b=tg bu dd bE aq a b:=(e1 105 _).trans (by kernel_rfl)
def jm (fL:af cS)(cN:af bf)(a:ByteArray)(minus:Bool)(i:Int)(d:List Int):Option (Bool×List Int):=
 bif (decide (i≥0)) then
  (zt a i).bind fun v0=>
  bif (v0 != 45) then
   (zt a i).bind fun v1=>
   let e2:Int:=(IntKind.wrap .i64 ((IntKind.wrap .i64 v1) - 48))
   bif (aE 8 1 d.length 1) then
   fL a minus (IntKind.wrap .i64 (i - 1)) (d++([e2]:List Int))
   else none
  else
   fL a minus (IntKind.wrap .i64 (i - 1)) d
 else
  (cN d).bind fun r3=>
  some (minus,r3)
theorem mX (a minus i d):cS a minus i d=jm cS bf a minus i d:=(l1 106 0 _).trans (by kernel_rfl)
def rQ (fL:af cS)(a:ByteArray):Option (Bool×List Int):=
 bif (decide ((a.size:Int)>0)) then
  (zt a 0).bind fun v0=>
  fL a (v0==45) (IntKind.wrap .i64 ((a.size:Int) - 1)) ([]:List Int)
 else
  fL a false (IntKind.wrap .i64 ((a.size:Int) - 1)) ([]:List Int)
theorem yY (a):aq a=rQ cS a:=(e1 106 _).trans (by kernel_rfl)
def lF (lG:af dL)(d:List Int)(i:Int)(out:List Int):Option (ByteArray):=
 bif (decide (i≥0)) then
  (idx d i).bind fun v0=>
  let e1:Int:=(IntKind.wrap .u8 (IntKind.wrap .i64 (48+v0)))
  bif (aE 1 1 out.length 1) then
  lG d (IntKind.wrap .i64 (i - 1)) (out++([e1]:List Int))
  else none
 else
  some (strOf out)
theorem pe (d i out):dL d i out=lF dL d i out:=(l1 107 0 _).trans (by kernel_rfl)
def vu (lG:af dL)(cN:af bf)(minus:Bool)(d:List Int):Option (ByteArray):=
 (cN d).bind fun r0=>
 bif ((r0.length:Int)==0) then
  some (bs [48])
 else
  bif minus then
   bif (aE 1 1 0 1) then
   let e1:Int:=(IntKind.wrap .i64 ((r0.length:Int) - 1))
   lG r0 e1 (([]:List Int)++([45]:List Int))
   else none
  else
   let e2:Int:=(IntKind.wrap .i64 ((r0.length:Int) - 1))
   lG r0 e2 ([]:List Int)
theorem BW (minus d):al minus d=vu dL bf minus d:=(e1 107 _).trans (by kernel_rfl)
def jn (nQ:af cV)(ax:af al)(q:Int)(d:List Int):Option (ByteArray):=
 bif (decide (q>0)) then
  bif (aE 8 1 d.length 1) then
  nQ (IntKind.wrap .i64 (q.tdiv 10)) (d++([(q.tmod 10)]:List Int))
  else none
 else
  (ax true d).bind fun r0=>
  some r0
theorem mY (q d):cV q d=jn cV al q d:=(l1 139 0 _).trans (by kernel_rfl)
def jo (nR:af cW)(ax:af al)(n:Int)(d:List Int):Option (ByteArray):=
 bif (decide (n>0)) then
  bif (aE 8 1 d.length 1) then
  nR (IntKind.wrap .i64 (n.tdiv 10)) (d++([(n.tmod 10)]:List Int))
  else none
 else
  (ax false d).bind fun r0=>
  some r0
theorem mZ (n d):cW n d=jo cW al n d:=(l1 139 1 _).trans (by kernel_rfl)
def rR (nQ:af cV)(nR:af cW)(n:Int):Option (ByteArray):=
 bif (decide (n<0)) then
  let e0:List Int:=([(IntKind.wrap .i64 (0 - (n.tmod 10)))]:List Int)
  bif (aE 8 1 0 1) then
  let e1:Int:=(IntKind.wrap .i64 (0 - (IntKind.wrap .i64 (n.tdiv 10))))
  nQ e1 (([]:List Int)++e0)
  else none
 else
  nR n ([]:List Int)
theorem yZ (n):bE n=rR cV cW n:=(e1 139 _).trans (by kernel_rfl)
def vv (rS:af eK)(a:ByteArray):Option (Bool):=
 (rS a).bind fun r0=>
 some (decide (r0>1000))
theorem BY (a):iY a=vv eK a:=(e1 143 _).trans (by kernel_rfl)
def ky (bq:af cB)(s:ByteArray)(i:Int):Option (Bool):=
 bif (decide (i<(s.size:Int))) then
  (zt s i).bind fun v0=>
  bif (decide (v0<48)) then
   some false
  else
   (zt s i).bind fun v1=>
   bif (decide (v1>57)) then
    some false
   else
    bq s (IntKind.wrap .i64 (i+1))
 else
  some true
theorem nS (s i):cB s i=ky cB s i:=(l1 144 0 _).trans (by kernel_rfl)
def th (bq:af cB)(a:ByteArray):Option (Bool):=
 bif (decide ((a.size:Int)>0)) then
  (zt a 0).bind fun v0=>
  bif (v0==45) then
   bif (c8 a.size 1 (a.size:Int)) then
   let e1:Int:=((a.extract (1:Int).toNat (a.size:Int).toNat).size:Int)
   bif (decide (e1>0)) then
    (zt (a.extract (1:Int).toNat (a.size:Int).toNat) 0).bind fun v2=>
    bif (v2==48) then
     some false
    else
     let e3:Int:=((a.extract (1:Int).toNat (a.size:Int).toNat).size:Int)
     bif (e3==0) then
      some false
     else
      (zt (a.extract (1:Int).toNat (a.size:Int).toNat) 0).bind fun v4=>
      bif (v4==48) then
       let e5:Int:=((a.extract (1:Int).toNat (a.size:Int).toNat).size:Int)
       bif (decide (e5>1)) then
        some false
       else
        bq (a.extract (1:Int).toNat (a.size:Int).toNat) 0
      else
       bq (a.extract (1:Int).toNat (a.size:Int).toNat) 0
   else
    let e6:Int:=((a.extract (1:Int).toNat (a.size:Int).toNat).size:Int)
    bif (e6==0) then
     some false
    else
     (zt (a.extract (1:Int).toNat (a.size:Int).toNat) 0).bind fun v7=>
     bif (v7==48) then
      let e8:Int:=((a.extract (1:Int).toNat (a.size:Int).toNat).size:Int)
      bif (decide (e8>1)) then
       some false
      else
       bq (a.extract (1:Int).toNat (a.size:Int).toNat) 0
     else
      bq (a.extract (1:Int).toNat (a.size:Int).toNat) 0
   else none
  else
   bif ((a.size:Int)==0) then
    some false
   else
    (zt a 0).bind fun v9=>
    bif (v9==48) then
     bif (decide ((a.size:Int)>1)) then
      some false
     else
      bq a 0
    else
     bq a 0
 else
  bif ((a.size:Int)==0) then
   some false
  else
   (zt a 0).bind fun v10=>
   bif (v10==48) then
    bif (decide ((a.size:Int)>1)) then
     some false
    else
     bq a 0
   else
    bq a 0
theorem Ag (a):jQ a=th cB a:=(e1 144 _).trans (by kernel_rfl)
def na (nb:af cp)(eP:af dq)(x:ByteArray)(y:ByteArray):Option (ByteArray):=
 bif (!(y.toList==(bs [48]).toList)) then
  (eP x y).bind fun r0=>
  nb y r0.2
 else
  some x
theorem sF (x y):cp x y=na cp dq x y:=(l1 145 0 _).trans (by kernel_rfl)
def qq (nb:af cp)(wN:af gd)(a:ByteArray)(b:ByteArray):Option (ByteArray):=
 (wN a).bind fun r0=>
 (wN b).bind fun r1=>
 nb r0 r1
theorem wO (a b):dN a b=qq cp gd a b:=(e1 145 _).trans (by kernel_rfl)
def lH (qs:af dO)(a:List Int)(b:List Int)(i:Int):Option (Int):=
 bif (decide (i≥0)) then
  (idx a i).bind fun v0=>
  (idx b i).bind fun v1=>
  bif (decide (v0<v1)) then
   some (-1)
  else
   (idx a i).bind fun v2=>
   (idx b i).bind fun v3=>
   bif (decide (v2>v3)) then
    some 1
   else
    qs a b (IntKind.wrap .i64 (i - 1))
 else
  some 0
theorem pf (a b i):dO a b i=lH dO a b i:=(l1 146 0 _).trans (by kernel_rfl)
def vw (qs:af dO)(a:List Int)(b:List Int):Option (Int):=
 bif ((a.length:Int) != (b.length:Int)) then
  bif (decide ((a.length:Int)<(b.length:Int))) then
   some (-1)
  else
   some 1
 else
  let e0:Int:=(IntKind.wrap .i64 ((a.length:Int) - 1))
  qs a b e0
theorem B0 (a b):da a b=vw dO a b:=(e1 146 _).trans (by kernel_rfl)
def kz (kA:af dn)(a:ByteArray)(n:Int)(i:Int):Option (Int×Bool):=
 bif (decide (i<(a.size:Int))) then
  (zt a i).bind fun v0=>
  bif (v0 != 45) then
   (zt a i).bind fun v1=>
   let e2:Int:=(IntKind.wrap .i64 ((IntKind.wrap .i64 (10*n))+(IntKind.wrap .i64 v1)))
   kA a (IntKind.wrap .i64 (e2 - 48)) (IntKind.wrap .i64 (i+1))
  else
   kA a n (IntKind.wrap .i64 (i+1))
 else
  bif (decide ((a.size:Int)>0)) then
   (zt a 0).bind fun v3=>
   bif (v3==45) then
    some ((IntKind.wrap .i64 (0 - n)),true)
   else
    some (n,true)
  else
   some (n,true)
theorem nT (a n i):dn a n i=kz dn a n i:=(l1 147 0 _).trans (by kernel_rfl)
def ti (kA:af dn)(rS:af eK)(a:ByteArray):Option (Int×Bool):=
 (rS a).bind fun r0=>
 bif (decide (r0>9)) then
  some (0,false)
 else
  kA a 0 0
theorem Ah (a):dd a=ti dn eK a:=(e1 147 _).trans (by kernel_rfl)
def lI (qt:af dP)(d:List Int):Option (List Int):=
 bif (decide ((d.length:Int)>0)) then
  let e0:Int:=(IntKind.wrap .i64 ((d.length:Int) - 1))
  (idx d e0).bind fun v1=>
  bif (v1==0) then
   let e2:Int:=(IntKind.wrap .i64 ((d.length:Int) - 1))
   bif (c8 d.length 0 e2) then
   qt (cut d 0 e2)
   else none
  else
   some d
 else
  some d
theorem pg (d):dP d=lI dP d:=(l1 148 0 _).trans (by kernel_rfl)
def vz (qt:af dP)(d:List Int):Option (List Int):=
 qt d
theorem B1 (d):bf d=vz dP d:=(e1 148 _).trans (by kernel_rfl)
def ig (lZ:af cg)(l7:af aG)(cN:af bf)(b:ByteArray)(p:Bool)(x:List Int)(s:Bool)(y:List Int)(r:List Int)(i:Int)(q:List Int):Option (ByteArray×ByteArray):=
 bif (decide (i≥0)) then
  (idx x i).bind fun v0=>
  bif (aE 8 1 1 r.length) then
  (cN (([v0]:List Int)++r)).bind fun r1=>
  lZ b p x s y r1 i 0 q
  else none
 else
  l7 b p s r 0 q
theorem kX (b p x s y r i q):bj b p x s y r i q=ig cg aG bf b p x s y r i q:=(l1 161 0 _).trans (by kernel_rfl)
def l8 (lZ:af cg)(ij:af bj)(fK:af da)(dG:af aW)(b:ByteArray)(p:Bool)(x:List Int)(s:Bool)(y:List Int)(r:List Int)(i:Int)(k:Int)(q:List Int):Option (ByteArray×ByteArray):=
 (fK r y).bind fun r0=>
 bif (decide (r0≥0)) then
  (dG r y).bind fun r1=>
  lZ b p x s y r1 i (IntKind.wrap .i64 (k+1)) q
 else
  bif (aE 8 1 q.length 1) then
  ij b p x s y r (IntKind.wrap .i64 (i - 1)) (q++([k]:List Int))
  else none
theorem rz (b p x s y r i k q):cg b p x s y r i k q=l8 cg bj da aW b p x s y r i k q:=(l1 161 1 _).trans (by kernel_rfl)
def ik (l7:af aG)(ax:af al)(Mn:af jR)(vA:af gj)(b:ByteArray)(p:Bool)(s:Bool)(r:List Int)(i:Int)(q:List Int):Option (ByteArray×ByteArray):=
 let e0:Int:=(IntKind.wrap .i64 ((q.length:Int).tdiv 2))
 bif (decide (i<e0)) then
  let e1:Int:=(IntKind.wrap .i64 ((q.length:Int) - 1))
  let e2:Int:=(IntKind.wrap .i64 ((q.length:Int) - 1))
  (idx q (IntKind.wrap .i64 (e2 - i))).bind fun _=>
  (q[(IntKind.wrap .i64 (e2 - i)).toNat]?).bind fun v3=>
  (idx q i).bind fun _=>
  (q[i.toNat]?).bind fun v4=>
  (idx q i).bind fun _=>
  (q[i.toNat]?).bind fun v5=>
  (idx (q.set i.toNat v3) (IntKind.wrap .i64 (e1 - i))).bind fun _=>
  ((q.set i.toNat v3)[(IntKind.wrap .i64 (e1 - i)).toNat]?).bind fun v6=>
  let e7:List Int:=((q.set i.toNat v3).set (IntKind.wrap .i64 (e1 - i)).toNat v4)
  l7 b p s r (IntKind.wrap .i64 (i+1)) e7
 else
  (ax (!(p==s)) q).bind fun r8=>
  (ax p r).bind fun r9=>
  bif (!(r9.toList==(bs [48]).toList)) then
   bif (!(p==s)) then
    (Mn r8 (bs [49])).bind fun M4=>
    (vA r9 b).bind fun r11=>
    some (M4,r11)
   else
    some (r8,r9)
  else
   some (r8,r9)
theorem kY (b p s r i q):aG b p s r i q=ik aG al jR gj b p s r i q:=(l1 161 2 _).trans (by kernel_rfl)
def ph (ij:af bj)(dS:af dd)(aQ:af bE)(aj:af aq)(cN:af bf)(a:ByteArray)(b:ByteArray):Option (ByteArray×ByteArray):=
 (dS a).bind fun r0=>
 (dS b).bind fun r1=>
 bif r0.2 then
  bif r1.2 then
   bif (!(r1.1==0)) then
   bif (!(r1.1==0)) then
   bif ((r0.1.tmod r1.1) != 0) then
    bif (!((decide ((r0.1.tmod r1.1)<0))==(decide (r1.1<0)))) then
     let e2:Int:=(IntKind.wrap .i64 ((IntKind.wrap .i64 (r0.1.tdiv r1.1)) - 1))
     (aQ e2).bind fun r3=>
     (aQ (IntKind.wrap .i64 ((r0.1.tmod r1.1)+r1.1))).bind fun r4=>
     some (r3,r4)
    else
     (aQ (IntKind.wrap .i64 (r0.1.tdiv r1.1))).bind fun r5=>
     (aQ (r0.1.tmod r1.1)).bind fun r6=>
     some (r5,r6)
   else
    (aQ (IntKind.wrap .i64 (r0.1.tdiv r1.1))).bind fun r7=>
    (aQ (r0.1.tmod r1.1)).bind fun r8=>
    some (r7,r8)
   else none
   else none
  else
   (aj a).bind fun r9=>
   (aj b).bind fun M4=>
   let Uh:Int:=(IntKind.wrap .i64 ((M4.2.length:Int) - 1))
   let e12:Int:=(bif decide (Uh>0) then Uh else 0)
   let WU:Int:=(bif decide ((IntKind.wrap .i64 ((r9.2.length:Int) - e12))>0) then (IntKind.wrap .i64 ((r9.2.length:Int) - e12)) else 0)
   bif (c8 r9.2.length WU (r9.2.length:Int)) then
   bif (aE 8 1 0 (cut r9.2 WU (r9.2.length:Int)).length) then
   let e14:List Int:=(([]:List Int)++(cut r9.2 WU (r9.2.length:Int)))
   (cN e14).bind fun r15=>
   ij b r9.1 r9.2 M4.1 M4.2 r15 (IntKind.wrap .i64 (WU - 1)) ([]:List Int)
   else none
   else none
 else
  (aj a).bind fun r16=>
  (aj b).bind fun r17=>
  let e18:Int:=(IntKind.wrap .i64 ((r17.2.length:Int) - 1))
  let e19:Int:=(bif decide (e18>0) then e18 else 0)
  let e20:Int:=(bif decide ((IntKind.wrap .i64 ((r16.2.length:Int) - e19))>0) then (IntKind.wrap .i64 ((r16.2.length:Int) - e19)) else 0)
  bif (c8 r16.2.length e20 (r16.2.length:Int)) then
  bif (aE 8 1 0 (cut r16.2 e20 (r16.2.length:Int)).length) then
  let e21:List Int:=(([]:List Int)++(cut r16.2 e20 (r16.2.length:Int)))
  (cN e21).bind fun r22=>
  ij b r16.1 r16.2 r17.1 r17.2 r22 (IntKind.wrap .i64 (e20 - 1)) ([]:List Int)
  else none
  else none
theorem vB (a b):dq a b=ph bj dd bE aq bf a b:=(e1 161 _).trans (by kernel_rfl)
def rT (a:ByteArray):Option (Int):=
 bif (decide ((a.size:Int)>0)) then
  (zt a 0).bind fun v0=>
  bif (v0==45) then
   some (IntKind.wrap .i64 ((a.size:Int) - 1))
  else
   some (a.size:Int)
 else
  some (a.size:Int)
theorem y5 (a):eK a=rT a:=(e1 162 _).trans (by kernel_rfl)
def pj (aj:af aq)(ax:af al)(a:ByteArray):Option (ByteArray):=
 (aj a).bind fun r0=>
 (ax false r0.2).bind fun r1=>
 some r1
theorem vC (a):gd a=pj aq al a:=(e1 163 _).trans (by kernel_rfl)
def fM (cL:af bA)(cN:af bf)(a:List Int)(b:List Int)(borrow:Int)(i:Int)(out:List Int):Option (List Int):=
 bif (decide (i<(a.length:Int))) then
  (idx a i).bind fun v0=>
  bif (decide (i<(b.length:Int))) then
   (idx b i).bind fun v1=>
   let e2:Int:=(IntKind.wrap .i64 ((IntKind.wrap .i64 (v0 - borrow)) - v1))
   bif (decide (e2<0)) then
    let e3:List Int:=([(IntKind.wrap .i64 (e2+10))]:List Int)
    bif (aE 8 1 out.length 1) then
    cL a b 1 (IntKind.wrap .i64 (i+1)) (out++e3)
    else none
   else
    bif (aE 8 1 out.length 1) then
    cL a b 0 (IntKind.wrap .i64 (i+1)) (out++([e2]:List Int))
    else none
  else
   bif (decide ((IntKind.wrap .i64 (v0 - borrow))<0)) then
    let e4:Int:=(IntKind.wrap .i64 ((IntKind.wrap .i64 (v0 - borrow))+10))
    bif (aE 8 1 out.length 1) then
    cL a b 1 (IntKind.wrap .i64 (i+1)) (out++([e4]:List Int))
    else none
   else
    bif (aE 8 1 out.length 1) then
    let e5:List Int:=(out++([(IntKind.wrap .i64 (v0 - borrow))]:List Int))
    cL a b 0 (IntKind.wrap .i64 (i+1)) e5
    else none
 else
  (cN out).bind fun r6=>
  some r6
theorem jq (a b borrow i out):bA a b borrow i out=fM bA bf a b borrow i out:=(l1 173 0 _).trans (by kernel_rfl)
def nc (cL:af bA)(a:List Int)(b:List Int):Option (List Int):=
 cL a b 0 0 ([]:List Int)
theorem sG (a b):aW a b=nc bA a b:=(e1 173 _).trans (by kernel_rfl)
def tj (kB:af di)(vA:af gj)(a:ByteArray)(b:ByteArray):Option (ByteArray):=
 (kB b).bind fun r0=>
 (vA a r0).bind fun r1=>
 some r1
theorem Ai (a b):jR a b=tj di gj a b:=(e1 174 _).trans (by kernel_rfl)
def vD (dS:af dd)(aQ:af bE)(aj:af aq)(Ff:af iC)(ax:af al)(fK:af da)(dG:af aW)(a:ByteArray)(b:ByteArray):Option (ByteArray):=
 (dS a).bind fun r0=>
 (dS b).bind fun r1=>
 bif r0.2 then
  bif r1.2 then
   (aQ (IntKind.wrap .i64 (r0.1+r1.1))).bind fun r2=>
   some r2
  else
   (aj a).bind fun r3=>
   (aj b).bind fun r4=>
   bif (r3.1==r4.1) then
    (Ff r3.2 r4.2).bind fun r5=>
    (ax r3.1 r5).bind fun r6=>
    some r6
   else
    (fK r3.2 r4.2).bind fun r7=>
    bif (decide (r7<0)) then
     (dG r4.2 r3.2).bind fun r8=>
     (ax r4.1 r8).bind fun r9=>
     some r9
    else
     (dG r3.2 r4.2).bind fun M4=>
     (ax r3.1 M4).bind fun r11=>
     some r11
 else
  (aj a).bind fun r12=>
  (aj b).bind fun r13=>
  bif (r12.1==r13.1) then
   (Ff r12.2 r13.2).bind fun r14=>
   (ax r12.1 r14).bind fun r15=>
   some r15
  else
   (fK r12.2 r13.2).bind fun r16=>
   bif (decide (r16<0)) then
    (dG r13.2 r12.2).bind fun r17=>
    (ax r13.1 r17).bind fun r18=>
    some r18
   else
    (dG r12.2 r13.2).bind fun r19=>
    (ax r12.1 r19).bind fun r20=>
    some r20
theorem B2 (a b):gj a b=vD dd bE aq iC al da aW a b:=(e1 175 _).trans (by kernel_rfl)
def jc (aJ:af eL)(a:List Int)(b:List Int)(carry:Int)(i:Int)(out:List Int):Option (List Int):=
 bif (decide (i<(a.length:Int))) then
  bif (decide (i<(a.length:Int))) then
   (idx a i).bind fun v0=>
   bif (decide (i<(b.length:Int))) then
    (idx b i).bind fun v1=>
    let e2:Int:=(IntKind.wrap .i64 ((IntKind.wrap .i64 (carry+v0))+v1))
    bif (aE 8 1 out.length 1) then
    aJ a b (IntKind.wrap .i64 (e2.tdiv 10)) (IntKind.wrap .i64 (i+1)) (out++([(e2.tmod 10)]:List Int))
    else none
   else
    let e3:Int:=((IntKind.wrap .i64 (carry+v0)).tmod 10)
    bif (aE 8 1 out.length 1) then
    let e4:Int:=(IntKind.wrap .i64 ((IntKind.wrap .i64 (carry+v0)).tdiv 10))
    aJ a b e4 (IntKind.wrap .i64 (i+1)) (out++([e3]:List Int))
    else none
  else
   bif (decide (i<(b.length:Int))) then
    (idx b i).bind fun v5=>
    let e6:Int:=((IntKind.wrap .i64 (carry+v5)).tmod 10)
    bif (aE 8 1 out.length 1) then
    let e7:Int:=(IntKind.wrap .i64 ((IntKind.wrap .i64 (carry+v5)).tdiv 10))
    aJ a b e7 (IntKind.wrap .i64 (i+1)) (out++([e6]:List Int))
    else none
   else
    bif (aE 8 1 out.length 1) then
    aJ a b (IntKind.wrap .i64 (carry.tdiv 10)) (IntKind.wrap .i64 (i+1)) (out++([(carry.tmod 10)]:List Int))
    else none
 else
  bif (decide (i<(b.length:Int))) then
   bif (decide (i<(a.length:Int))) then
    (idx a i).bind fun v8=>
    bif (decide (i<(b.length:Int))) then
     (idx b i).bind fun v9=>
     let Y0:Int:=(IntKind.wrap .i64 ((IntKind.wrap .i64 (carry+v8))+v9))
     bif (aE 8 1 out.length 1) then
     aJ a b (IntKind.wrap .i64 (Y0.tdiv 10)) (IntKind.wrap .i64 (i+1)) (out++([(Y0.tmod 10)]:List Int))
     else none
    else
     let Uh:Int:=((IntKind.wrap .i64 (carry+v8)).tmod 10)
     bif (aE 8 1 out.length 1) then
     let e12:Int:=(IntKind.wrap .i64 ((IntKind.wrap .i64 (carry+v8)).tdiv 10))
     aJ a b e12 (IntKind.wrap .i64 (i+1)) (out++([Uh]:List Int))
     else none
   else
    bif (decide (i<(b.length:Int))) then
     (idx b i).bind fun v13=>
     let e14:Int:=((IntKind.wrap .i64 (carry+v13)).tmod 10)
     bif (aE 8 1 out.length 1) then
     let e15:Int:=(IntKind.wrap .i64 ((IntKind.wrap .i64 (carry+v13)).tdiv 10))
     aJ a b e15 (IntKind.wrap .i64 (i+1)) (out++([e14]:List Int))
     else none
    else
     bif (aE 8 1 out.length 1) then
     aJ a b (IntKind.wrap .i64 (carry.tdiv 10)) (IntKind.wrap .i64 (i+1)) (out++([(carry.tmod 10)]:List Int))
     else none
  else
   bif (decide (carry>0)) then
    bif (decide (i<(a.length:Int))) then
     (idx a i).bind fun v16=>
     bif (decide (i<(b.length:Int))) then
      (idx b i).bind fun v17=>
      let e18:Int:=(IntKind.wrap .i64 ((IntKind.wrap .i64 (carry+v16))+v17))
      bif (aE 8 1 out.length 1) then
      aJ a b (IntKind.wrap .i64 (e18.tdiv 10)) (IntKind.wrap .i64 (i+1)) (out++([(e18.tmod 10)]:List Int))
      else none
     else
      let e19:Int:=((IntKind.wrap .i64 (carry+v16)).tmod 10)
      bif (aE 8 1 out.length 1) then
      let e20:Int:=(IntKind.wrap .i64 ((IntKind.wrap .i64 (carry+v16)).tdiv 10))
      aJ a b e20 (IntKind.wrap .i64 (i+1)) (out++([e19]:List Int))
      else none
    else
     bif (decide (i<(b.length:Int))) then
      (idx b i).bind fun v21=>
      let e22:Int:=((IntKind.wrap .i64 (carry+v21)).tmod 10)
      bif (aE 8 1 out.length 1) then
      let e23:Int:=(IntKind.wrap .i64 ((IntKind.wrap .i64 (carry+v21)).tdiv 10))
      aJ a b e23 (IntKind.wrap .i64 (i+1)) (out++([e22]:List Int))
      else none
     else
      bif (aE 8 1 out.length 1) then
      aJ a b (IntKind.wrap .i64 (carry.tdiv 10)) (IntKind.wrap .i64 (i+1)) (out++([(carry.tmod 10)]:List Int))
      else none
   else
    some out
theorem lJ (a b carry i out):eL a b carry i out=jc eL a b carry i out:=(l1 179 0 _).trans (by kernel_rfl)
def xN (aJ:af eL)(a:List Int)(b:List Int):Option (List Int):=
 aJ a b 0 0 ([]:List Int)
theorem Dy (a b):iC a b=xN eL a b:=(e1 179 _).trans (by kernel_rfl)
end
end Go.Proofs.YtofjebmoebhiiaaGreatDoor.Ev
namespace Go.Proofs.YtofjebmoebhiiaaGreatDoor.Ev
open Go.Abs
noncomputable section
def tk (NR:af lh)(Q8:af oX)(a:ByteArray):Option (Bool):=
 (NR a).bind fun r0=>
 bif (!r0) then
  (Q8 a).bind fun r1=>
  some r1
 else
  some false
theorem Aj (a):fp a=tk lh oX a:=(e1 61 _).trans (by kernel_rfl)
def qu (dT:af cH)(bB:af bJ)(dV:af fu)(a:ByteArray)(b:ByteArray):Option (Int):=
 bif (a.toList==(bs [105,110,102]).toList) then
  bif (b.toList==(bs [105,110,102]).toList) then
   some 0
  else
   bif (a.toList==(bs [105,110,102]).toList) then
    some 1
   else
    bif (b.toList==(bs [105,110,102]).toList) then
     some (-1)
    else
     (dT a).bind fun r0=>
     (dT b).bind fun r1=>
     bif (r0.2.1.toList==(bs [49]).toList) then
      bif (r1.2.1.toList==(bs [49]).toList) then
       (bB r0.1 r1.1).bind fun r2=>
       some r2
      else
       (dV r0.1 r1.2.1).bind fun r3=>
       (dV r1.1 r0.2.1).bind fun r4=>
       (bB r3 r4).bind fun r5=>
       some r5
     else
      (dV r0.1 r1.2.1).bind fun r6=>
      (dV r1.1 r0.2.1).bind fun r7=>
      (bB r6 r7).bind fun r8=>
      some r8
 else
  bif (a.toList==(bs [105,110,102]).toList) then
   some 1
  else
   bif (b.toList==(bs [105,110,102]).toList) then
    some (-1)
   else
    (dT a).bind fun r9=>
    (dT b).bind fun M4=>
    bif (r9.2.1.toList==(bs [49]).toList) then
     bif (M4.2.1.toList==(bs [49]).toList) then
      (bB r9.1 M4.1).bind fun r11=>
      some r11
     else
      (dV r9.1 M4.2.1).bind fun r12=>
      (dV M4.1 r9.2.1).bind fun r13=>
      (bB r12 r13).bind fun r14=>
      some r14
    else
     (dV r9.1 M4.2.1).bind fun r15=>
     (dV M4.1 r9.2.1).bind fun r16=>
     (bB r15 r16).bind fun r17=>
     some r17
theorem wP (a b):bH a b=qu cH bJ fu a b:=(e1 64 _).trans (by kernel_rfl)
def kC (pk:af dh)(a:ByteArray)(i:Int):Option (ByteArray×ByteArray×Bool):=
 bif (decide (i<(a.size:Int))) then
  (zt a i).bind fun v0=>
  bif (v0==47) then
   bif (c8 a.size 0 i) then
   bif (c8 a.size (IntKind.wrap .i64 (i+1)) (a.size:Int)) then
   let e1:ByteArray:=(a.extract (IntKind.wrap .i64 (i+1)).toNat (a.size:Int).toNat)
   some ((a.extract (0:Int).toNat i.toNat),e1,true)
   else none
   else none
  else
   pk a (IntKind.wrap .i64 (i+1))
 else
  some (a,(bs [49]),false)
theorem nU (a i):dh a i=kC dh a i:=(l1 65 0 _).trans (by kernel_rfl)
def tl (pk:af dh)(a:ByteArray):Option (ByteArray×ByteArray×Bool):=
 pk a 0
theorem Ak (a):cH a=tl dh a:=(e1 65 _).trans (by kernel_rfl)
def wQ (aQ:af bE)(IY:af j0)(a:Int)(b:Int):Option (ByteArray):=
 (aQ a).bind fun r0=>
 (aQ b).bind fun r1=>
 (IY r0 r1).bind fun r2=>
 some r2
theorem GG (a b):fX a b=wQ bE j0 a b:=(e1 95 _).trans (by kernel_rfl)
def vE (dT:af cH)(Dz:af iY)(a:ByteArray):Option (Bool):=
 (dT a).bind fun r0=>
 (Dz r0.1).bind fun r1=>
 bif r1 then
  some true
 else
  (Dz r0.2.1).bind fun r2=>
  some r2
theorem B3 (a):lh a=vE cH iY a:=(e1 102 _).trans (by kernel_rfl)
def zS (dT:af cH)(B4:af jQ)(bB:af bJ)(lK:af dN)(a:ByteArray):Option (Bool):=
 (dT a).bind fun r0=>
 (B4 r0.1).bind fun r1=>
 bif (!r1) then
  some false
 else
  bif (!r0.2.2) then
   some true
  else
   (B4 r0.2.1).bind fun r2=>
   bif r2 then
    bif (!(r0.1.toList==(bs [48]).toList)) then
     (bB r0.2.1 (bs [50])).bind fun r3=>
     bif (decide (r3≥0)) then
      (lK r0.1 r0.2.1).bind fun r4=>
      some (r4.toList==(bs [49]).toList)
     else
      some false
    else
     some false
   else
    some false
theorem Fg (a):oX a=zS cH jQ bJ dN a:=(e1 103 _).trans (by kernel_rfl)
def y6 (bB:af bJ)(kB:af di)(lK:af dN)(eP:af dq)(n:ByteArray)(d:ByteArray):Option (ByteArray):=
 (bB d (bs [48])).bind fun r0=>
 bif (decide (r0<0)) then
  (kB n).bind fun r1=>
  (kB d).bind fun r2=>
  (lK r1 r2).bind fun r3=>
  bif (!(r3.toList==(bs [49]).toList)) then
   (eP r1 r3).bind fun r4=>
   (eP r2 r3).bind fun r5=>
   bif (r5.1.toList==(bs [49]).toList) then
    some r4.1
   else
    bif (Nat.ble (r4.1.size+(bs [47]).size) 9223372036854775807) then
    bif (Nat.ble ((r4.1++(bs [47])).size+r5.1.size) 9223372036854775807) then
    some ((r4.1++(bs [47]))++r5.1)
    else none
    else none
  else
   bif (r2.toList==(bs [49]).toList) then
    some r1
   else
    bif (Nat.ble (r1.size+(bs [47]).size) 9223372036854775807) then
    bif (Nat.ble ((r1++(bs [47])).size+r2.size) 9223372036854775807) then
    some ((r1++(bs [47]))++r2)
    else none
    else none
 else
  (lK n d).bind fun r6=>
  bif (!(r6.toList==(bs [49]).toList)) then
   (eP n r6).bind fun r7=>
   (eP d r6).bind fun r8=>
   bif (r8.1.toList==(bs [49]).toList) then
    some r7.1
   else
    bif (Nat.ble (r7.1.size+(bs [47]).size) 9223372036854775807) then
    bif (Nat.ble ((r7.1++(bs [47])).size+r8.1.size) 9223372036854775807) then
    some ((r7.1++(bs [47]))++r8.1)
    else none
    else none
  else
   bif (d.toList==(bs [49]).toList) then
    some n
   else
    bif (Nat.ble (n.size+(bs [47]).size) 9223372036854775807) then
    bif (Nat.ble ((n++(bs [47])).size+d.size) 9223372036854775807) then
    some ((n++(bs [47]))++d)
    else none
    else none
theorem HF (n d):j0 n d=y6 bJ di dN dq n d:=(e1 138 _).trans (by kernel_rfl)
end
end Go.Proofs.YtofjebmoebhiiaaGreatDoor.Ev
namespace Go.Proofs.YtofjebmoebhiiaaGreatDoor.Ev
open Go.Abs
noncomputable section
def fN (nV:af cR)(IZ:af gS)(s:List Int)(i:Int)(out:List (List Int)):Option (List (List Int)):=
 bif (decide ((s.length:Int)>1)) then
  bif (decide (i<(s.length:Int))) then
   (IZ s i).bind fun r0=>
   bif (aE 24 1 out.length 1) then
   nV s (IntKind.wrap .i64 (i+1)) (out++([r0]:List (List Int)))
   else none
  else
   some out
 else
  some out
theorem iO (s i out):cR s i out=fN cR gS s i out:=(l1 58 0 _).trans (by kernel_rfl)
def rU (nV:af cR)(s:List Int):Option (List (List Int)):=
 nV s 0 ([]:List (List Int))
theorem y7 (s):bD s=rU cR s:=(e1 58 _).trans (by kernel_rfl)
def mv (rV:af eH)(a:List Int)(b:List Int)(i:Int):Option (Int):=
 bif (decide (i<(a.length:Int))) then
  (idx a i).bind fun v0=>
  (idx b i).bind fun v1=>
  bif (decide (v0<v1)) then
   some (-1)
  else
   (idx a i).bind fun v2=>
   (idx b i).bind fun v3=>
   bif (decide (v2>v3)) then
    some 1
   else
    rV a b (IntKind.wrap .i64 (i+1))
 else
  some 0
theorem qv (a b i):eH a b i=mv eH a b i:=(l1 59 0 _).trans (by kernel_rfl)
def xO (rV:af eH)(a:List Int)(b:List Int):Option (Int):=
 bif ((a.length:Int) != (b.length:Int)) then
  bif (decide ((a.length:Int)<(b.length:Int))) then
   some (-1)
  else
   some 1
 else
  rV a b 0
theorem DA (a b):aV a b=xO eH a b:=(e1 59 _).trans (by kernel_rfl)
def pn (kD:af fW)(zU:af oZ)(mw:af iK)(l:List Int)(most:Int)(n:Int)(i:Int)(out:List Int):Option (List Int):=
 bif (decide (i<(l.length:Int))) then
  bif (decide ((out.length:Int)<most)) then
   (idx l i).bind fun v0=>
   bif (!(n==0)) then
   bif (!(n==0)) then
   (zU out ((IntKind.wrap .i64 ((v0.tmod n)+n)).tmod n)).bind fun r1=>
   bif (!r1) then
    let e2:List Int:=([((IntKind.wrap .i64 ((v0.tmod n)+n)).tmod n)]:List Int)
    bif (aE 8 1 out.length 1) then
    kD l most n (IntKind.wrap .i64 (i+1)) (out++e2)
    else none
   else
    kD l most n (IntKind.wrap .i64 (i+1)) out
   else none
   else none
  else
   bif ((out.length:Int)==0) then
    bif (aE 8 1 out.length 1) then
    (mw (out++([0]:List Int))).bind fun r3=>
    some r3.1
    else none
   else
    (mw out).bind fun r4=>
    some r4.1
 else
  bif ((out.length:Int)==0) then
   bif (aE 8 1 out.length 1) then
   (mw (out++([0]:List Int))).bind fun r5=>
   some r5.1
   else none
  else
   (mw out).bind fun r6=>
   some r6.1
theorem vF (l most n i out):fW l most n i out=pn fW oZ iK l most n i out:=(l1 93 0 _).trans (by kernel_rfl)
def B5 (kD:af fW)(l:List Int)(most:Int)(n:Int):Option (List Int):=
 kD l most n 0 ([]:List Int)
theorem Kw (l most n):qT l most n=B5 fW l most n:=(e1 93 _).trans (by kernel_rfl)
def rW (rX:af iI)(zU:af oZ)(a:List Int)(b:List Int)(i:Int):Option (Bool):=
 bif (decide (i<(b.length:Int))) then
  (idx b i).bind fun v0=>
  (zU a v0).bind fun r1=>
  bif (!r1) then
   some false
  else
   rX a b (IntKind.wrap .i64 (i+1))
 else
  some true
theorem y8 (a b i):iI a b i=rW iI oZ a b i:=(l1 97 0 _).trans (by kernel_rfl)
def Fh (rX:af iI)(a:List Int)(b:List Int):Option (Bool):=
 rX a b 0
theorem NS (a b):u6 a b=Fh iI a b:=(e1 97 _).trans (by kernel_rfl)
def dH (iP:af bL)(s:List Int)(k:Int)(i:Int)(out:List Int):Option (List Int):=
 bif (decide (i<(s.length:Int))) then
  bif (i != k) then
   (idx s i).bind fun v0=>
   bif (aE 8 1 out.length 1) then
   iP s k (IntKind.wrap .i64 (i+1)) (out++([v0]:List Int))
   else none
  else
   iP s k (IntKind.wrap .i64 (i+1)) out
 else
  some out
theorem eX (s k i out):bL s k i out=dH bL s k i out:=(l1 101 0 _).trans (by kernel_rfl)
def qw (iP:af bL)(s:List Int)(k:Int):Option (List Int):=
 iP s k 0 ([]:List Int)
theorem wR (s k):gS s k=qw bL s k:=(e1 101 _).trans (by kernel_rfl)
def tn (tp:af jO)(a:List Int)(v:Int)(i:Int):Option (Bool):=
 bif (decide (i<(a.length:Int))) then
  (idx a i).bind fun v0=>
  bif (v0==v) then
   some true
  else
   tp a v (IntKind.wrap .i64 (i+1))
 else
  some false
theorem Al (a v i):jO a v i=tn jO a v i:=(l1 134 0 _).trans (by kernel_rfl)
def Hf (tp:af jO)(a:List Int)(v:Int):Option (Bool):=
 tp a v 0
theorem Pp (a v):oZ a v=Hf jO a v:=(e1 134 _).trans (by kernel_rfl)
def nW (nX:af fx)(n:Int)(i:Int)(out:List Int):Option ((List Int)×Int):=
 bif (decide (i<(out.length:Int))) then
  nX n i i out
 else
  some (out,n)
theorem ud (n i out):dM n i out=nW fx n i out:=(l1 135 0 _).trans (by kernel_rfl)
def nY (nX:af fx)(jr:af dM)(n:Int)(i:Int)(k:Int)(out:List Int):Option ((List Int)×Int):=
 bif (decide (k>0)) then
  (idx out (IntKind.wrap .i64 (k - 1))).bind fun _=>
  (out[(IntKind.wrap .i64 (k - 1)).toNat]?).bind fun v0=>
  (idx out k).bind fun _=>
  (out[k.toNat]?).bind fun v1=>
  bif (decide (v0>v1)) then
   (idx out k).bind fun _=>
   (out[k.toNat]?).bind fun v2=>
   (idx out (IntKind.wrap .i64 (k - 1))).bind fun _=>
   (out[(IntKind.wrap .i64 (k - 1)).toNat]?).bind fun v3=>
   (idx out (IntKind.wrap .i64 (k - 1))).bind fun _=>
   (out[(IntKind.wrap .i64 (k - 1)).toNat]?).bind fun v4=>
   let e5:List Int:=(out.set (IntKind.wrap .i64 (k - 1)).toNat v2)
   (idx e5 k).bind fun _=>
   (e5[k.toNat]?).bind fun v6=>
   nX (IntKind.wrap .i64 (1 - n)) i (IntKind.wrap .i64 (k - 1)) (e5.set k.toNat v3)
  else
   jr n (IntKind.wrap .i64 (i+1)) out
 else
  jr n (IntKind.wrap .i64 (i+1)) out
theorem uf (n i k out):fx n i k out=nY fx dM n i k out:=(l1 135 1 _).trans (by kernel_rfl)
def Am (jr:af dM)(l:List Int):Option ((List Int)×Int):=
 bif (aE 8 1 0 l.length) then
 jr 0 0 (([]:List Int)++l)
 else none
theorem I0 (l):iK l=Am dM l:=(e1 135 _).trans (by kernel_rfl)
def wS (kE:af fZ)(s:List Int)(m:Int)(out:List (List Int)):Option (List (List Int)):=
 bif (decide (0≤(s.length:Int))) then
 bif (decide (m<(shl .i64 1 (s.length:Int)))) then
  kE s m 0 out ([]:List Int)
 else
  some out
 else none
theorem GH (s m out):rF s m out=wS fZ s m out:=(l1 136 0 _).trans (by kernel_rfl)
def po (kE:af fZ)(nZ:af cU)(gU:af eW)(s:List Int)(m:Int)(i:Int)(out:List (List Int))(f:List Int):Option (List (List Int)):=
 bif (decide (i<(s.length:Int))) then
  bif (decide (0≤i)) then
  bif (((shr .i64 m i).tmod 2)==1) then
   (idx s i).bind fun v0=>
   bif (aE 8 1 f.length 1) then
   kE s m (IntKind.wrap .i64 (i+1)) out (f++([v0]:List Int))
   else none
  else
   kE s m (IntKind.wrap .i64 (i+1)) out f
  else none
 else
  (gU out f).bind fun r1=>
  nZ s r1 (IntKind.wrap .i64 (m+1))
theorem vG (s m i out f):fZ s m i out f=po fZ cU eW s m i out f:=(l1 136 1 _).trans (by kernel_rfl)
def oa (js:af fy)(s:List Int)(out:List (List Int))(m:Int):Option (List (List Int)):=
 bif (decide (0≤(s.length:Int))) then
 bif (decide (m<(shl .i64 1 (s.length:Int)))) then
  js s out m 0 ([]:List Int)
 else
  some out
 else none
theorem ug (s out m):cU s out m=oa fy s out m:=(l1 136 0 _).trans (by kernel_rfl)
def oc (js:af fy)(nZ:af cU)(gU:af eW)(s:List Int)(out:List (List Int))(m:Int)(i:Int)(f:List Int):Option (List (List Int)):=
 bif (decide (i<(s.length:Int))) then
  bif (decide (0≤i)) then
  bif (((shr .i64 m i).tmod 2)==1) then
   (idx s i).bind fun v0=>
   bif (aE 8 1 f.length 1) then
   js s out m (IntKind.wrap .i64 (i+1)) (f++([v0]:List Int))
   else none
  else
   js s out m (IntKind.wrap .i64 (i+1)) f
  else none
 else
  (gU out f).bind fun r1=>
  nZ s r1 (IntKind.wrap .i64 (m+1))
theorem uh (s out m i f):fy s out m i f=oc fy cU eW s out m i f:=(l1 136 1 _).trans (by kernel_rfl)
def B6 (HG:af rF)(s:List Int):Option (List (List Int)):=
 HG s 1 ([]:List (List Int))
theorem Kx (s):jP s=B6 rF s:=(e1 136 _).trans (by kernel_rfl)
def rY (jd:af iL)(aY:af aV)(l:List (List Int))(s:List Int)(done:Bool)(i:Int)(out:List (List Int)):Option (List (List Int)):=
 bif (decide (i<(l.length:Int))) then
  (idx l i).bind fun v0=>
  (aY s v0).bind fun r1=>
  bif (r1==0) then
   some l
  else
   bif (decide (r1<0)) then
    bif (!done) then
     bif (aE 24 1 out.length 1) then
     (idx l i).bind fun v2=>
     bif (aE 24 1 (out++([s]:List (List Int))).length 1) then
     let e3:List (List Int):=((out++([s]:List (List Int)))++([v2]:List (List Int)))
     jd l s true (IntKind.wrap .i64 (i+1)) e3
     else none
     else none
    else
     (idx l i).bind fun v4=>
     bif (aE 24 1 out.length 1) then
     jd l s done (IntKind.wrap .i64 (i+1)) (out++([v4]:List (List Int)))
     else none
   else
    (idx l i).bind fun v5=>
    bif (aE 24 1 out.length 1) then
    jd l s done (IntKind.wrap .i64 (i+1)) (out++([v5]:List (List Int)))
    else none
 else
  bif (!done) then
   bif (aE 24 1 out.length 1) then
   some (out++([s]:List (List Int)))
   else none
  else
   some out
theorem y9 (l s done i out):iL l s done i out=rY iL aV l s done i out:=(l1 137 0 _).trans (by kernel_rfl)
def Fj (jd:af iL)(l:List (List Int))(s:List Int):Option (List (List Int)):=
 jd l s false 0 ([]:List (List Int))
theorem NT (l s):eW l s=Fj iL l s:=(e1 137 _).trans (by kernel_rfl)
def kF (pq:af dk)(pr:af dm)(s:List Int)(i:Int):Option (Int):=
 bif (decide (i<(s.length:Int))) then
  (idx s i).bind fun v0=>
  bif (decide (v0<0)) then
   some 1
  else
   (idx s i).bind fun v1=>
   bif (decide (v1≥64)) then
    some 1
   else
    pq s (IntKind.wrap .i64 (i+1))
 else
  pr s 1
theorem od (s i):dk s i=kF dk dm s i:=(l1 140 0 _).trans (by kernel_rfl)
def kG (pr:af dm)(s:List Int)(i:Int):Option (Int):=
 bif (decide (i<(s.length:Int))) then
  (idx s i).bind fun v0=>
  (idx s (IntKind.wrap .i64 (i - 1))).bind fun v1=>
  bif (decide (v0≤v1)) then
   some 6
  else
   pr s (IntKind.wrap .i64 (i+1))
 else
  some 0
theorem oe (s i):dm s i=kG dm s i:=(l1 140 1 _).trans (by kernel_rfl)
def tq (pq:af dk)(s:List Int):Option (Int):=
 bif ((s.length:Int)==0) then
  some 1
 else
  bif (decide ((s.length:Int)>5)) then
   some 3
  else
   pq s 0
theorem An (s):fz s=tq dk s:=(e1 140 _).trans (by kernel_rfl)
end
end Go.Proofs.YtofjebmoebhiiaaGreatDoor.Ev
namespace Go.Proofs.YtofjebmoebhiiaaGreatDoor.Ev
open Go.Abs
noncomputable section
def pw (px:af fU)(l:List (List Int))(i:Int)(out:List (List Int)):Option (List (List Int)):=
 bif (decide (i<(l.length:Int))) then
  (idx l i).bind fun v0=>
  bif (aE 8 1 0 v0.length) then
  bif (aE 24 1 out.length 1) then
  let e1:List (List Int):=(out++([(([]:List Int)++v0)]:List (List Int)))
  px l (IntKind.wrap .i64 (i+1)) e1
  else none
  else none
 else
  some out
theorem vH (l i out):fU l i out=pw fU l i out:=(l1 53 0 _).trans (by kernel_rfl)
def B7 (px:af fU)(l:List (List Int)):Option (List (List Int)):=
 px l 0 ([]:List (List Int))
theorem Ky (l):qQ l=B7 fU l:=(e1 53 _).trans (by kernel_rfl)
def py (pz:af fV)(kH:af eD)(Mo:af qT)(Ao:af lv)(l:List (List Int))(most:Int)(Qm:Int)(n:Int)(i:Int)(Qn:List (List Int)):Option (List (List Int)):=
 bif (decide (i<(l.length:Int))) then
  bif (decide (i<most)) then
   (idx l i).bind fun v0=>
   (Mo v0 (IntKind.wrap .i64 (Qm+1)) n).bind fun r1=>
   bif (aE 24 1 Qn.length 1) then
   pz l most Qm n (IntKind.wrap .i64 (i+1)) (Qn++([r1]:List (List Int)))
   else none
  else
   (Ao Qn).bind fun r2=>
   kH r2 (r2.length:Int) 0 ([]:List (List Int))
 else
  (Ao Qn).bind fun r3=>
  kH r3 (r3.length:Int) 0 ([]:List (List Int))
theorem vI (l most Qm n i Qn):fV l most Qm n i Qn=py fV eD qT lv l most Qm n i Qn:=(l1 54 0 _).trans (by kernel_rfl)
def pA (kH:af eD)(t:List (List Int))(t2:Int)(t3:Int)(out:List (List Int)):Option (List (List Int)):=
 bif (decide (t3<t2)) then
  (idx t t3).bind fun v0=>
  bif (aE 24 1 out.length 1) then
  kH t t2 (IntKind.wrap .i64 (t3+1)) (out++([v0]:List (List Int)))
  else none
 else
  some out
theorem vJ (t t2 t3 out):eD t t2 t3 out=pA eD t t2 t3 out:=(l1 54 1 _).trans (by kernel_rfl)
def B8 (pz:af fV)(l:List (List Int))(most:Int)(Qm:Int)(n:Int):Option (List (List Int)):=
 pz l most Qm n 0 ([]:List (List Int))
theorem Kz (l most Qm n):qR l most Qm n=B8 fV l most Qm n:=(e1 54 _).trans (by kernel_rfl)
def og (GI:af qg)(tt:af jP)(l:List (List Int))(i:Int)(out:List (List Int)):Option (List (List Int)):=
 bif (decide (i<(l.length:Int))) then
  (idx l i).bind fun v0=>
  (tt v0).bind fun r1=>
  GI l i r1 0 out
 else
  some out
theorem ui (l i out):ft l i out=og qg jP l i out:=(l1 94 0 _).trans (by kernel_rfl)
def vK (fB:af cn)(oh:af ft)(gU:af eW)(l:List (List Int))(i:Int)(f:List (List Int))(k:Int)(out:List (List Int)):Option (List (List Int)):=
 bif (decide (k<(f.length:Int))) then
  (idx f k).bind fun v0=>
  (gU out v0).bind fun r1=>
  fB l r1 i f (IntKind.wrap .i64 (k+1))
 else
  oh l (IntKind.wrap .i64 (i+1)) out
theorem Fk (l i f k out):qg l i f k out=vK cn ft eW l i f k out:=(l1 94 1 _).trans (by kernel_rfl)
def nf (fB:af cn)(Fl:af gD)(gU:af eW)(l:List (List Int))(out:List (List Int))(i:Int)(f:List (List Int))(k:Int):Option (List (List Int)):=
 bif (decide (k<(f.length:Int))) then
  (idx f k).bind fun v0=>
  (gU out v0).bind fun r1=>
  fB l r1 i f (IntKind.wrap .i64 (k+1))
 else
  Fl l out (IntKind.wrap .i64 (i+1))
theorem sH (l out i f k):cn l out i f k=nf cn gD eW l out i f k:=(l1 94 1 _).trans (by kernel_rfl)
def ng (fB:af cn)(tt:af jP)(l:List (List Int))(out:List (List Int))(i:Int):Option (List (List Int)):=
 bif (decide (i<(l.length:Int))) then
  (idx l i).bind fun v0=>
  (tt v0).bind fun r1=>
  fB l out i r1 0
 else
  some out
theorem sI (l out i):gD l out i=ng cn jP l out i:=(l1 94 0 _).trans (by kernel_rfl)
def Ap (oh:af ft)(l:List (List Int)):Option (List (List Int)):=
 oh l 0 ([]:List (List Int))
theorem I1 (l):lv l=Ap ft l:=(e1 94 _).trans (by kernel_rfl)
def pB (eQ:af fY)(tu:af fz)(aY:af aV)(bQ:af bD)(l:List (List Int))(i:Int):Option (Int):=
 bif (decide (i<(l.length:Int))) then
  (idx l i).bind fun v0=>
  (tu v0).bind fun r1=>
  bif (r1 != 0) then
   some r1
  else
   bif (decide (i>0)) then
    (idx l i).bind fun v2=>
    (idx l (IntKind.wrap .i64 (i - 1))).bind fun v3=>
    (aY v2 v3).bind fun r4=>
    bif (r4==0) then
     some 5
    else
     bif (decide (i>0)) then
      (idx l i).bind fun v5=>
      (idx l (IntKind.wrap .i64 (i - 1))).bind fun v6=>
      (aY v5 v6).bind fun r7=>
      bif (decide (r7<0)) then
       some 6
      else
       (idx l i).bind fun v8=>
       (bQ v8).bind fun r9=>
       eQ l i r9 0
     else
      (idx l i).bind fun v10=>
      (bQ v10).bind fun r11=>
      eQ l i r11 0
   else
    bif (decide (i>0)) then
     (idx l i).bind fun v12=>
     (idx l (IntKind.wrap .i64 (i - 1))).bind fun v13=>
     (aY v12 v13).bind fun r14=>
     bif (decide (r14<0)) then
      some 6
     else
      (idx l i).bind fun v15=>
      (bQ v15).bind fun r16=>
      eQ l i r16 0
    else
     (idx l i).bind fun v17=>
     (bQ v17).bind fun r18=>
     eQ l i r18 0
 else
  some 0
theorem vL (l i):eE l i=pB fY fz aV bD l i:=(l1 96 0 _).trans (by kernel_rfl)
def pC (eQ:af fY)(pD:af eE)(Mp:af qV)(l:List (List Int))(i:Int)(f:List (List Int))(k:Int):Option (Int):=
 bif (decide (k<(f.length:Int))) then
  (idx f k).bind fun v0=>
  (Mp l v0).bind fun r1=>
  bif (decide (r1<0)) then
   some 7
  else
   eQ l i f (IntKind.wrap .i64 (k+1))
 else
  pD l (IntKind.wrap .i64 (i+1))
theorem vM (l i f k):fY l i f k=pC fY eE qV l i f k:=(l1 96 1 _).trans (by kernel_rfl)
def B9 (pD:af eE)(l:List (List Int)):Option (Int):=
 bif (decide ((l.length:Int)>1024)) then
  some 3
 else
  pD l 0
theorem KA (l):qU l=B9 eE l:=(e1 96 _).trans (by kernel_rfl)
def wT (pE:af ga)(aY:af aV)(l:List (List Int))(s:List Int)(i:Int):Option (Int):=
 bif (decide (i<(l.length:Int))) then
  (idx l i).bind fun v0=>
  (aY v0 s).bind fun r1=>
  bif (r1==0) then
   some i
  else
   pE l s (IntKind.wrap .i64 (i+1))
 else
  some (-1)
theorem GJ (l s i):ga l s i=wT ga aV l s i:=(l1 141 0 _).trans (by kernel_rfl)
def Ca (pE:af ga)(l:List (List Int))(s:List Int):Option (Int):=
 pE l s 0
theorem KB (l s):qV l s=Ca ga l s:=(e1 141 _).trans (by kernel_rfl)
end
end Go.Proofs.YtofjebmoebhiiaaGreatDoor.Ev
namespace Go.Proofs.YtofjebmoebhiiaaGreatDoor.Ev
open Go.Abs
noncomputable section
def pF (kI:af fS)(Cb:af qS)(Q9:af yc)(values:List Int)(c:List (List Int))(i:Int)(T2:List ByteArray):Option (List ((List Int)×ByteArray×Unit)):=
 bif (decide (i<(c.length:Int))) then
  bif (decide ((values.length:Int)>0)) then
   bif (!((values.length:Int)==0)) then
   (idx values (i.tmod (values.length:Int))).bind fun v0=>
   bif (!((values.length:Int)==0)) then
   let e1:Int:=(IntKind.wrap .i64 (i.tdiv (values.length:Int)))
   (Cb (IntKind.wrap .i64 (v0+e1))).bind fun r2=>
   bif (aE 16 1 T2.length 1) then
   kI values c (IntKind.wrap .i64 (i+1)) (T2++([r2]:List ByteArray))
   else none
   else none
   else none
  else
   (Cb i).bind fun r3=>
   bif (aE 16 1 T2.length 1) then
   kI values c (IntKind.wrap .i64 (i+1)) (T2++([r3]:List ByteArray))
   else none
 else
  (Q9 c T2).bind fun r4=>
  some r4.1
theorem vN (values c i T2):fS values c i T2=pF fS qS yc values c i T2:=(l1 32 0 _).trans (by kernel_rfl)
def Cc (kI:af fS)(Mq:af qR)(Mr:af qQ)(l:List (List Int))(values:List Int)(most:Int)(Qm:Int)(n:Int):Option (List ((List Int)×ByteArray×Unit)):=
 (Mq l most Qm n).bind fun r0=>
 (Mr r0).bind fun r1=>
 kI values r1 0 ([]:List ByteArray)
theorem KC (l values most Qm n):qN l values most Qm n=Cc fS qR qQ l values most Qm n:=(e1 32 _).trans (by kernel_rfl)
def Cd (HH:af fX)(n:Int):Option (ByteArray):=
 let e0:Int:=(IntKind.wrap .i64 ((n.tmod 24)+24))
 let e1:Int:=(IntKind.wrap .i64 ((e0.tmod 24) - 8))
 (HH e1 4).bind fun r2=>
 some r2
theorem KD (n):qS n=Cd fX n:=(e1 55 _).trans (by kernel_rfl)
def tv (tw:af jL)(tA:af gR)(tB:af fp)(l:List (List Int))(values:List ByteArray)(i:Int):Option ((List ((List Int)×ByteArray×Unit))×Int):=
 bif (decide (i<(values.length:Int))) then
  (idx values i).bind fun v0=>
  (tB v0).bind fun r1=>
  bif (!r1) then
   some (([]:List ((List Int)×ByteArray×Unit)),(1:Int))
  else
   tw l values (IntKind.wrap .i64 (i+1))
 else
  tA l values 0 ([]:List ((List Int)×ByteArray×Unit))
theorem Aq (l values i):jL l values i=tv jL gR fp l values i:=(l1 56 0 _).trans (by kernel_rfl)
def tC (j9:af jM)(KE:af lx)(l:List (List Int))(values:List ByteArray)(i:Int)(out:List ((List Int)×ByteArray×Unit)):Option ((List ((List Int)×ByteArray×Unit))×Int):=
 bif (decide (i<(l.length:Int))) then
  (idx values i).bind fun v0=>
  j9 l values i v0 0 out
 else
  (KE out).bind fun r1=>
  some (r1,(0:Int))
theorem Ar (l values i out):gR l values i out=tC jM lx l values i out:=(l1 56 1 _).trans (by kernel_rfl)
def tD (j9:af jM)(tA:af gR)(Pq:af u6)(iG:af bH)(l:List (List Int))(values:List ByteArray)(i:Int)(T2:ByteArray)(k:Int)(out:List ((List Int)×ByteArray×Unit)):Option ((List ((List Int)×ByteArray×Unit))×Int):=
 bif (decide (k<(l.length:Int))) then
  (idx l i).bind fun v0=>
  (idx l k).bind fun v1=>
  (Pq v0 v1).bind fun r2=>
  bif r2 then
   (idx values k).bind fun v3=>
   (iG v3 T2).bind fun r4=>
   bif (decide (r4>0)) then
    (idx values k).bind fun v5=>
    j9 l values i v5 (IntKind.wrap .i64 (k+1)) out
   else
    j9 l values i T2 (IntKind.wrap .i64 (k+1)) out
  else
   j9 l values i T2 (IntKind.wrap .i64 (k+1)) out
 else
  (idx l i).bind fun v6=>
  let e7:List ((List Int)×ByteArray×Unit):=([(v6,(T2,()))]:List ((List Int)×ByteArray×Unit))
  bif (aE 40 2 out.length 1) then
  tA l values (IntKind.wrap .i64 (i+1)) (out++e7)
  else none
theorem As (l values i T2 k out):jM l values i T2 k out=tD jM gR u6 bH l values i T2 k out:=(l1 56 2 _).trans (by kernel_rfl)
def Hg (tw:af jL)(Ms:af qU)(l:List (List Int))(values:List ByteArray):Option ((List ((List Int)×ByteArray×Unit))×Int):=
 (Ms l).bind fun r0=>
 bif (r0 != 0) then
  some (([]:List ((List Int)×ByteArray×Unit)),r0)
 else
  bif ((values.length:Int) != (l.length:Int)) then
   some (([]:List ((List Int)×ByteArray×Unit)),(10:Int))
  else
   tw l values 0
theorem Ps (l values):yc l values=Hg jL qU l values:=(e1 56 _).trans (by kernel_rfl)
def kJ (pG:af dg)(NU:af lb)(bQ:af bD)(f:List ((List Int)×ByteArray×Unit))(i:Int):Option (Int):=
 bif (decide (i<(f.length:Int))) then
  (NU f i).bind fun r0=>
  bif (r0 != 0) then
   some r0
  else
   (idx f i).bind fun v1=>
   (bQ v1.1).bind fun r2=>
   pG f i r2 0
 else
  some 0
theorem oi (f i):cw f i=kJ dg lb bD f i:=(l1 57 0 _).trans (by kernel_rfl)
def kK (pG:af dg)(kL:af cw)(tF:af ee)(iG:af bH)(f:List ((List Int)×ByteArray×Unit))(i:Int)(b9:List (List Int))(k:Int):Option (Int):=
 bif (decide (k<(b9.length:Int))) then
  (idx b9 k).bind fun v0=>
  (tF f i v0).bind fun r1=>
  bif (decide (r1<0)) then
   some 7
  else
   pG f i b9 (IntKind.wrap .i64 (k+1))
 else
  bif (decide (i>0)) then
   (idx f i).bind fun v2=>
   (idx f (IntKind.wrap .i64 (i - 1))).bind fun v3=>
   (iG v2.2.1 v3.2.1).bind fun r4=>
   bif (decide (r4<0)) then
    some 6
   else
    kL f (IntKind.wrap .i64 (i+1))
  else
   kL f (IntKind.wrap .i64 (i+1))
theorem oo (f i b9 k):dg f i b9 k=kK dg cw ee bH f i b9 k:=(l1 57 1 _).trans (by kernel_rfl)
def tG (kL:af cw)(f:List ((List Int)×ByteArray×Unit)):Option (Int):=
 bif (decide ((f.length:Int)>1024)) then
  some 3
 else
  kL f 0
theorem Au (f):jN f=tG cw f:=(e1 57 _).trans (by kernel_rfl)
def oq (jt:af dK)(out:Nat)(i:Int)(aD:H4)(kn:H8):Option (List ((List Int)×ByteArray×Unit)):=
 (ag kn out).bind fun v0=>
 bif (decide (i<(v0.length:Int))) then
  jt out i i aD kn
 else
  (typed (hs [] [] [] [] aD [] [] [] kn []) (.slice (.st (.pair (.slice (.int .i64)) (.pair (.str) (.unit))))) (.rv (.cv ⟨.ref 8,out⟩))).bind fun v1=>
  some v1
theorem uj (out i aD kn):bz out i aD kn=oq dK out i aD kn:=(l1 98 0 _).trans (by kernel_rfl)
def ot (fO:af bz)(jt:af dK)(iG:af bH)(aY:af aV)(out:Nat)(i:Int)(k:Int)(aD:H4)(kn:H8):Option (List ((List Int)×ByteArray×Unit)):=
 bif (decide (k>0)) then
  (ag kn out).bind fun v0=>
  (idx v0 k).bind fun _=>
  (ag kn out).bind fun v1=>
  (v1[k.toNat]?).bind fun v2=>
  (ag kn out).bind fun v3=>
  (idx v3 (IntKind.wrap .i64 (k - 1))).bind fun _=>
  (ag kn out).bind fun v4=>
  (v4[(IntKind.wrap .i64 (k - 1)).toNat]?).bind fun v5=>
  (iG v2.2.1 v5.2.1).bind fun r6=>
  bif (decide (r6>0)) then
   fO out (IntKind.wrap .i64 (i+1)) aD kn
  else
   bif (r6==0) then
    (ag kn out).bind fun v7=>
    (idx v7 k).bind fun _=>
    (ag kn out).bind fun v8=>
    (v8[k.toNat]?).bind fun v9=>
    (ag kn out).bind fun v10=>
    (idx v10 (IntKind.wrap .i64 (k - 1))).bind fun _=>
    (ag kn out).bind fun v11=>
    (v11[(IntKind.wrap .i64 (k - 1)).toNat]?).bind fun v12=>
    (typed (hs [] [] [] [] aD [] [] [] kn []) (.slice (.int .i64)) (.rv (.cv ⟨.ref 4,v9.1⟩))).bind fun v13=>
    (typed (hs [] [] [] [] aD [] [] [] kn []) (.slice (.int .i64)) (.rv (.cv ⟨.ref 4,v12.1⟩))).bind fun v14=>
    (aY v13 v14).bind fun r15=>
    bif (decide (r15>0)) then
     fO out (IntKind.wrap .i64 (i+1)) aD kn
    else
     (ag kn out).bind fun v16=>
     (idx v16 (IntKind.wrap .i64 (k - 1))).bind fun _=>
     (ag kn out).bind fun v17=>
     (v17[(IntKind.wrap .i64 (k - 1)).toNat]?).bind fun v18=>
     (ag kn out).bind fun v19=>
     (idx v19 k).bind fun _=>
     (ag kn out).bind fun v20=>
     (v20[k.toNat]?).bind fun v21=>
     (ag kn out).bind fun v22=>
     (idx v22 k).bind fun _=>
     (ag kn out).bind fun v23=>
     (v23[k.toNat]?).bind fun v24=>
     let e25:H8:=(jg kn out (v23.set k.toNat (v18.1,(v18.2.1,()))))
     (ag e25 out).bind fun v26=>
     (idx v26 (IntKind.wrap .i64 (k - 1))).bind fun _=>
     (ag e25 out).bind fun v27=>
     (v27[(IntKind.wrap .i64 (k - 1)).toNat]?).bind fun v28=>
     let e29:H8:=(jg e25 out (v27.set (IntKind.wrap .i64 (k - 1)).toNat (v21.1,(v21.2.1,()))))
     jt out i (IntKind.wrap .i64 (k - 1)) aD e29
   else
    (ag kn out).bind fun v30=>
    (idx v30 (IntKind.wrap .i64 (k - 1))).bind fun _=>
    (ag kn out).bind fun v31=>
    (v31[(IntKind.wrap .i64 (k - 1)).toNat]?).bind fun v32=>
    (ag kn out).bind fun v33=>
    (idx v33 k).bind fun _=>
    (ag kn out).bind fun v34=>
    (v34[k.toNat]?).bind fun v35=>
    (ag kn out).bind fun v36=>
    (idx v36 k).bind fun _=>
    (ag kn out).bind fun v37=>
    (v37[k.toNat]?).bind fun v38=>
    let e39:H8:=(jg kn out (v37.set k.toNat (v32.1,(v32.2.1,()))))
    (ag e39 out).bind fun v40=>
    (idx v40 (IntKind.wrap .i64 (k - 1))).bind fun _=>
    (ag e39 out).bind fun v41=>
    (v41[(IntKind.wrap .i64 (k - 1)).toNat]?).bind fun v42=>
    let e43:H8:=(jg e39 out (v41.set (IntKind.wrap .i64 (k - 1)).toNat (v35.1,(v35.2.1,()))))
    jt out i (IntKind.wrap .i64 (k - 1)) aD e43
 else
  fO out (IntKind.wrap .i64 (i+1)) aD kn
theorem uk (out i k aD kn):dK out i k aD kn=ot bz dK bH aV out i k aD kn:=(l1 98 1 _).trans (by kernel_rfl)
def Av (fO:af bz)(KF:af pY)(l:List ((List Int)×ByteArray×Unit)):Option (List ((List Int)×ByteArray×Unit)):=
 (KF l ([]:H8) ([]:H4)).bind fun r0=>
 fO r0.1 0 r0.2.2 r0.2.1
theorem I2 (l):lx l=Av bz pY l:=(e1 98 _).trans (by kernel_rfl)
def vO (tu:af fz)(tB:af fp)(tF:af ee)(f:List ((List Int)×ByteArray×Unit))(i:Int):Option (Int):=
 (idx f i).bind fun v0=>
 (tu v0.1).bind fun r1=>
 bif (r1 != 0) then
  some r1
 else
  (idx f i).bind fun v2=>
  (tB v2.2.1).bind fun r3=>
  bif (!r3) then
   some 1
  else
   (idx f i).bind fun v4=>
   (tF f i v4.1).bind fun r5=>
   bif (decide (r5≥0)) then
    some 5
   else
    some 0
theorem Cf (f i):lb f i=vO fz fp ee f i:=(e1 99 _).trans (by kernel_rfl)
def kM (pH:af cz)(aY:af aV)(f:List ((List Int)×ByteArray×Unit))(n:Int)(s:List Int)(i:Int):Option (Int):=
 bif (decide (i<n)) then
  (idx f i).bind fun v0=>
  (aY v0.1 s).bind fun r1=>
  bif (r1==0) then
   some i
  else
   pH f n s (IntKind.wrap .i64 (i+1))
 else
  some (-1)
theorem ou (f n s i):cz f n s i=kM cz aV f n s i:=(l1 100 0 _).trans (by kernel_rfl)
def ov (pH:af cz)(f:List ((List Int)×ByteArray×Unit))(n:Int)(s:List Int):Option (Int):=
 pH f n s 0
theorem rZ (f n s):ee f n s=ov cz f n s:=(e1 100 _).trans (by kernel_rfl)
def ow (eo:af fA)(l:List ((List Int)×ByteArray×Unit))(out:Nat)(i:Int)(aD:H4)(kn:H8):Option ((Nat)×H8×H4):=
 bif (decide (i<(l.length:Int))) then
  (idx l i).bind fun v0=>
  (ag (aD++[some ([]:List Int)]) (aD.length+1:Nat)).bind fun v1=>
  bif (aE 8 1 v1.length v0.1.length) then
  bif v0.1.isEmpty then
   (idx l i).bind fun v2=>
   let e3:H8:=(kn++[some ([((aD.length+1:Nat),(v2.2.1,()))]:List (Nat×ByteArray×Unit))])
   (ag e3 out).bind fun v4=>
   (ag e3 (kn.length+1:Nat)).bind fun v5=>
   bif (aE 40 2 v4.length v5.length) then
   bif v5.isEmpty then
    eo l out (IntKind.wrap .i64 (i+1)) (aD++[some ([]:List Int)]) e3
   else
    eo l ((dA e3 out).length+1:Nat) (IntKind.wrap .i64 (i+1)) (aD++[some ([]:List Int)]) ((dA e3 out)++[some (v4++v5)])
   else none
  else
   let e6:H4:=((dA (aD++[some ([]:List Int)]) (aD.length+1:Nat))++[some (v1++v0.1)])
   let e7:Nat:=((dA (aD++[some ([]:List Int)]) (aD.length+1:Nat)).length+1:Nat)
   (idx l i).bind fun v8=>
   let e9:H8:=(kn++[some ([(e7,(v8.2.1,()))]:List (Nat×ByteArray×Unit))])
   (ag e9 out).bind fun v10=>
   (ag e9 (kn.length+1:Nat)).bind fun v11=>
   bif (aE 40 2 v10.length v11.length) then
   bif v11.isEmpty then
    eo l out (IntKind.wrap .i64 (i+1)) e6 e9
   else
    eo l ((dA e9 out).length+1:Nat) (IntKind.wrap .i64 (i+1)) e6 ((dA e9 out)++[some (v10++v11)])
   else none
  else none
 else
  some (out,(kn,aD))
theorem um (l out i aD kn):fA l out i aD kn=ow fA l out i aD kn:=(l1 142 0 _).trans (by kernel_rfl)
def Aw (eo:af fA)(l:List ((List Int)×ByteArray×Unit))(kn:H8)(aD:H4):Option ((Nat)×H8×H4):=
 eo l (0:Nat) 0 aD kn
theorem I3 (l kn aD):pY l kn aD=Aw fA l kn aD:=(e1 142 _).trans (by kernel_rfl)
end
end Go.Proofs.YtofjebmoebhiiaaGreatDoor.Ev
namespace Go.Proofs.YtofjebmoebhiiaaGreatDoor.Ev
open Go.Abs
noncomputable section
def pI (pJ:af fR)(n:Int)(x:List (List Int))(x2:List Int)(x3:Int)(x4:List Int)(t:Int)(t2:Nat)(c:Int)(c2:xx):Option mj:=
 bif (decide ((IntKind.wrap .i64 (n+2))<(x4.length:Int))) then
  bif (decide (n<24)) then
   bif (decide ((c2.length:Int)>0)) then
    (idx x4 n).bind fun v0=>
    bif (!((c2.length:Int)==0)) then
    let e1:Int:=(IntKind.wrap .i64 ((v0.tmod (c2.length:Int))+(c2.length:Int)))
    bif (!((c2.length:Int)==0)) then
    (idx x4 (IntKind.wrap .i64 (n+1))).bind fun v2=>
    bif (!((IntKind.wrap .i64 (c - 1))==0)) then
    let e3:Int:=(IntKind.wrap .i64 ((v2.tmod (IntKind.wrap .i64 (c - 1)))+c))
    bif (!((IntKind.wrap .i64 (c - 1))==0)) then
    let e4:Int:=((IntKind.wrap .i64 (e3 - 1)).tmod (IntKind.wrap .i64 (c - 1)))
    let e5:Int:=(IntKind.wrap .i64 ((e1.tmod (c2.length:Int)) - 1))
    pJ n (e1.tmod (c2.length:Int)) (IntKind.wrap .i64 (1+e4)) e5 x x2 x3 x4 t t2 c c2
    else none
    else none
    else none
    else none
   else
    some (c,(c2,()))
  else
   some (c,(c2,()))
 else
  some (c,(c2,()))
theorem vP (n x x2 x3 x4 t t2 c c2):eA n x x2 x3 x4 t t2 c c2=pI fR n x x2 x3 x4 t t2 c c2:=(l1 14 0 _).trans (by kernel_rfl)
def pK (pJ:af fR)(eS:af eA)(DB:af sU)(n:Int)(j:Int)(k:Int)(i:Int)(x:List (List Int))(x2:List Int)(x3:Int)(x4:List Int)(t:Int)(t2:Nat)(c:Int)(c2:xx):Option mj:=
 bif (decide (i≥0)) then
  (idx c2 i).bind fun v0=>
  (idx c2 j).bind fun v1=>
  bif (v0.1 != v1.1) then
   pJ n j k (IntKind.wrap .i64 (i - 1)) x x2 x3 x4 t t2 c c2
  else
   bif (decide (i≥0)) then
    (idx x4 (IntKind.wrap .i64 (n+2))).bind fun v2=>
    bif (!(c==0)) then
    bif (!(c==0)) then
    (DB (c,(c2,())) i j k ((IntKind.wrap .i64 ((v2.tmod c)+c)).tmod c)).bind fun r3=>
    eS (IntKind.wrap .i64 (n+3)) x x2 x3 x4 t t2 r3.1 r3.2.1
    else none
    else none
   else
    eS (IntKind.wrap .i64 (n+3)) x x2 x3 x4 t t2 c c2
 else
  bif (decide (i≥0)) then
   (idx x4 (IntKind.wrap .i64 (n+2))).bind fun v4=>
   bif (!(c==0)) then
   bif (!(c==0)) then
   (DB (c,(c2,())) i j k ((IntKind.wrap .i64 ((v4.tmod c)+c)).tmod c)).bind fun r5=>
   eS (IntKind.wrap .i64 (n+3)) x x2 x3 x4 t t2 r5.1 r5.2.1
   else none
   else none
  else
   eS (IntKind.wrap .i64 (n+3)) x x2 x3 x4 t t2 c c2
theorem vQ (n j k i x x2 x3 x4 t t2 c c2):fR n j k i x x2 x3 x4 t t2 c c2=pK fR eA sU n j k i x x2 x3 x4 t t2 c c2:=(l1 14 1 _).trans (by kernel_rfl)
def Cg (eS:af eA)(Mt:af qN)(Mu:af qO)(zQ:af jz)(x:(List (List Int))×(List Int)×Int×(List Int)×Unit)(most:Int):Option mj:=
 let e0:Int:=(bif decide (40<(x.1.length:Int)) then 40 else (x.1.length:Int))
 bif (c8 x.1.length 0 e0) then
 (Mt (cut x.1 0 e0) x.2.1 5 3 6).bind fun r1=>
 let e2:Int:=(bif decide (most<(r1.length:Int)) then most else (r1.length:Int))
 bif (c8 r1.length 0 e2) then
 (Mu x.2.2.1).bind fun r3=>
 (zQ (cut r1 0 e2) r3).bind fun r4=>
 eS 0 x.1 x.2.1 x.2.2.1 x.2.2.2.1 0 (0:Nat) r4.1.1 r4.1.2.1
 else none
 else none
theorem KG (x most):qM x most=Cg eA qN qO jz x most:=(e1 14 _).trans (by kernel_rfl)
def oz (oA:af fo)(i:Int)(c:Int)(c2:xx)(t:Int)(t2:Nat)(out:Int)(ai:Nat)(k9:H0):Option ((Int×Nat×Unit)×H0):=
 bif (decide (i<(c2.length:Int))) then
  (idx c2 i).bind fun v0=>
  bif (aE 16 2 0 v0.2.2.1.length) then
  let e1:xx:=([(v0.1,(v0.2.1,((([]:cQ)++v0.2.2.1),())))]:xx)
  (ag k9 ai).bind fun v2=>
  bif (aE 48 3 v2.length 1) then
  oA (IntKind.wrap .i64 (i+1)) c c2 t t2 out ((dA k9 ai).length+1:Nat) ((dA k9 ai)++[some (v2++e1)])
  else none
  else none
 else
  (typed (hs ([]) [] [] [] [] [] [] [] [] []) yG (.rv (.agg [⟨.int .i64,out⟩,⟨.ref 0,ai⟩]))).bind fun v3=>
  some (v3,k9)
theorem uo (i c c2 t t2 out ai k9):fo i c c2 t t2 out ai k9=oz fo i c c2 t t2 out ai k9:=(l1 15 0 _).trans (by kernel_rfl)
def Ax (oA:af fo)(c:mj)(k9:H0):Option ((Int×Nat×Unit)×H0):=
 oA 0 c.1 c.2.1 0 (0:Nat) c.1 (0:Nat) k9
theorem I4 (c k9):pX c k9=Ax fo c k9:=(e1 15 _).trans (by kernel_rfl)
def qx (ka:af ck)(a:cQ)(b:cQ)(i:Int):Option (Bool):=
 bif (decide (i<(a.length:Int))) then
  (idx a i).bind fun v0=>
  (idx b i).bind fun v1=>
  bif (!(Bb yT (v0.1,(v0.2.1,())) (v1.1,(v1.2.1,())))) then
   some false
  else
   ka a b (IntKind.wrap .i64 (i+1))
 else
  some true
theorem A0 (a b i):ck a b i=qx ck a b i:=(l1 30 0 _).trans (by kernel_rfl)
def uq (ka:af ck)(a:cQ)(b:cQ):Option (Bool):=
 bif ((a.length:Int) != (b.length:Int)) then
  some false
 else
  ka a b 0
theorem Eo (a b):gC a b=uq ck a b:=(e1 30 _).trans (by kernel_rfl)
def Ch (tH:af gM)(bQ:af bD)(f:List ((List Int)×ByteArray×Unit))(p:Int)(j:Int)(t:Int)(t2:Nat)(out:Int)(ai:Nat):Option (mj×Int):=
 bif (decide (j<(f.length:Int))) then
  bif (iS 8 j j) then
  let e0:H4:=(([]:H4)++[some (List.replicate j.toNat 0)])
  let e1:Nat:=(([]:H4).length+1:Nat)
  (idx f j).bind fun v2=>
  (bQ v2.1).bind fun r3=>
  tH f p j e1 r3 0 t t2 out ai e0
  else none
 else
  (Pf (typed h0 yH (.rv (.agg [⟨.int .i64,out⟩,⟨.ref 0,ai⟩]))) (some 0)).bind fun v4=>
  some v4
theorem KH (f p j t t2 out ai):jK f p j t t2 out ai=Ch gM bD f p j t t2 out ai:=(l1 33 0 _).trans (by kernel_rfl)
def Ci (oB:af gN)(sc:af cM)(c6:af aR)(f:List ((List Int)×ByteArray×Unit))(p:Int)(j:Int)(v:Nat)(b9:List (List Int))(k:Int)(t:Int)(t2:Nat)(out:Int)(ai:Nat)(aD:H4):Option (mj×Int):=
 bif (decide (k<(b9.length:Int))) then
  oB f p j v b9 k 0 t t2 out ai aD
 else
  (idx f j).bind fun v0=>
  let e1:Int:=(IntKind.wrap .i64 ((v0.1.length:Int) - 1))
  (idx f j).bind fun v2=>
  (c6 v aD).bind fun r3=>
  let e4:xx:=([(e1,(v2.2.1,(r3,())))]:xx)
  (ag ([]:H0) ai).bind fun v5=>
  bif (aE 48 3 v5.length 1) then
  let e6:H0:=((dA ([]:H0) ai)++[some (v5++e4)])
  let e7:Nat:=((dA ([]:H0) ai).length+1:Nat)
  sc f p (IntKind.wrap .i64 (j+1)) t t2 out e7 e6 aD
  else none
theorem KI (f p j v b9 k t t2 out ai aD):gM f p j v b9 k t t2 out ai aD=Ci gN cM aR f p j v b9 k t t2 out ai aD:=(l1 33 1 _).trans (by kernel_rfl)
def Cj (oB:af gN)(tH:af gM)(aY:af aV)(f:List ((List Int)×ByteArray×Unit))(p:Int)(j:Int)(v:Nat)(b9:List (List Int))(k:Int)(i:Int)(t:Int)(t2:Nat)(out:Int)(ai:Nat)(aD:H4):Option (mj×Int):=
 bif (decide (i<j)) then
  (idx f i).bind fun v0=>
  (idx b9 k).bind fun v1=>
  (aY v0.1 v1).bind fun r2=>
  bif (r2==0) then
   let e3:Int:=(IntKind.wrap .i64 ((k.tmod 2)*(IntKind.wrap .i64 (p - 2))))
   bif (!(p==0)) then
   (ag aD v).bind fun v4=>
   (idx v4 i).bind fun _=>
   (ag aD v).bind fun v5=>
   (v5[i.toNat]?).bind fun v6=>
   let e7:H4:=(jg aD v (v5.set i.toNat ((IntKind.wrap .i64 (1+e3)).tmod p)))
   oB f p j v b9 k (IntKind.wrap .i64 (i+1)) t t2 out ai e7
   else none
  else
   oB f p j v b9 k (IntKind.wrap .i64 (i+1)) t t2 out ai aD
 else
  tH f p j v b9 (IntKind.wrap .i64 (k+1)) t t2 out ai aD
theorem KJ (f p j v b9 k i t t2 out ai aD):gN f p j v b9 k i t t2 out ai aD=Cj gN gM aV f p j v b9 k i t t2 out ai aD:=(l1 33 2 _).trans (by kernel_rfl)
def my (se:af dC)(bQ:af bD)(f:List ((List Int)×ByteArray×Unit))(p:Int)(j:Int)(t:Int)(t2:Nat)(out:Int)(ai:Nat)(k9:H0)(aD:H4):Option (mj×Int):=
 bif (decide (j<(f.length:Int))) then
  bif (iS 8 j j) then
  let e0:H4:=(aD++[some (List.replicate j.toNat 0)])
  (idx f j).bind fun v1=>
  (bQ v1.1).bind fun r2=>
  se f p j (aD.length+1:Nat) r2 0 t t2 out ai k9 e0
  else none
 else
  (Pf (typed (hs k9 [] [] [] aD [] [] [] [] []) yH (.rv (.agg [⟨.int .i64,out⟩,⟨.ref 0,ai⟩]))) (some 0)).bind fun v3=>
  some v3
theorem qy (f p j t t2 out ai k9 aD):cM f p j t t2 out ai k9 aD=my dC bD f p j t t2 out ai k9 aD:=(l1 33 0 _).trans (by kernel_rfl)
def mz (mA:af eG)(sc:af cM)(c6:af aR)(f:List ((List Int)×ByteArray×Unit))(p:Int)(j:Int)(v:Nat)(b9:List (List Int))(k:Int)(t:Int)(t2:Nat)(out:Int)(ai:Nat)(k9:H0)(aD:H4):Option (mj×Int):=
 bif (decide (k<(b9.length:Int))) then
  mA f p j v b9 k 0 t t2 out ai k9 aD
 else
  (idx f j).bind fun v0=>
  let e1:Int:=(IntKind.wrap .i64 ((v0.1.length:Int) - 1))
  (idx f j).bind fun v2=>
  (c6 v aD).bind fun r3=>
  let e4:xx:=([(e1,(v2.2.1,(r3,())))]:xx)
  (ag k9 ai).bind fun v5=>
  bif (aE 48 3 v5.length 1) then
  sc f p (IntKind.wrap .i64 (j+1)) t t2 out ((dA k9 ai).length+1:Nat) ((dA k9 ai)++[some (v5++e4)]) aD
  else none
theorem qz (f p j v b9 k t t2 out ai k9 aD):dC f p j v b9 k t t2 out ai k9 aD=mz eG cM aR f p j v b9 k t t2 out ai k9 aD:=(l1 33 1 _).trans (by kernel_rfl)
def mB (mA:af eG)(se:af dC)(aY:af aV)(f:List ((List Int)×ByteArray×Unit))(p:Int)(j:Int)(v:Nat)(b9:List (List Int))(k:Int)(i:Int)(t:Int)(t2:Nat)(out:Int)(ai:Nat)(k9:H0)(aD:H4):Option (mj×Int):=
 bif (decide (i<j)) then
  (idx f i).bind fun v0=>
  (idx b9 k).bind fun v1=>
  (aY v0.1 v1).bind fun r2=>
  bif (r2==0) then
   let e3:Int:=(IntKind.wrap .i64 ((k.tmod 2)*(IntKind.wrap .i64 (p - 2))))
   bif (!(p==0)) then
   (ag aD v).bind fun v4=>
   (idx v4 i).bind fun _=>
   (ag aD v).bind fun v5=>
   (v5[i.toNat]?).bind fun v6=>
   let e7:H4:=(jg aD v (v5.set i.toNat ((IntKind.wrap .i64 (1+e3)).tmod p)))
   mA f p j v b9 k (IntKind.wrap .i64 (i+1)) t t2 out ai k9 e7
   else none
  else
   mA f p j v b9 k (IntKind.wrap .i64 (i+1)) t t2 out ai k9 aD
 else
  se f p j v b9 (IntKind.wrap .i64 (k+1)) t t2 out ai k9 aD
theorem qA (f p j v b9 k i t t2 out ai k9 aD):eG f p j v b9 k i t t2 out ai k9 aD=mB eG dC aV f p j v b9 k i t t2 out ai k9 aD:=(l1 33 2 _).trans (by kernel_rfl)
def zV (Mv:af jK)(Mw:af gQ)(My:af jN)(f:List ((List Int)×ByteArray×Unit))(p:Int):Option (mj×Int):=
 (Mw p).bind fun r0=>
 bif (!r0) then
  (Pf (typed h0 yH (.rv (.agg [⟨.int .i64,(0:Int)⟩,⟨.ref 0,(0:Nat)⟩]))) (some 8)).bind fun v1=>
  some v1
 else
  (My f).bind fun r2=>
  bif (r2 != 0) then
   (Pf (typed h0 yH (.rv (.agg [⟨.int .i64,(0:Int)⟩,⟨.ref 0,(0:Nat)⟩]))) (some r2)).bind fun v3=>
   some v3
  else
   Mv f p 0 0 (0:Nat) p (0:Nat)
theorem Fm (f p):jz f p=zV jK gQ jN f p:=(e1 33 _).trans (by kernel_rfl)
def Ck (n:Int):Option (Int):=
 let e0:List Int:=([2,(3:Int),(5:Int),(2:Int),(251:Int),(7:Int)]:List Int)
 let e1:Int:=(IntKind.wrap .i64 ((n.tmod 6)+6))
 (idx e0 (e1.tmod 6)).bind fun _=>
 (e0[(e1.tmod 6).toNat]?).bind fun v2=>
 some v2
theorem KK (n):qO n=Ck n:=(e1 34 _).trans (by kernel_rfl)
def qB (qC:af gO)(qD:af gP)(c6:af aR)(i:Int)(j:Int)(k:Int)(m:Int)(inv:Int)(v:Nat)(a:List Int)(b:List Int)(n:Int)(c:Int)(c2:xx)(t:Int)(t2:Nat)(out:Int)(ai:Nat)(k9:H0)(aD:H4):Option mj:=
 (ag aD v).bind fun v0=>
 bif (decide (n<(v0.length:Int))) then
  (idx a n).bind fun v1=>
  (idx b n).bind fun v2=>
  let e3:Int:=(IntKind.wrap .i64 ((IntKind.wrap .i64 (k*v1))+(IntKind.wrap .i64 (m*v2))))
  bif (!(c==0)) then
  (ag aD v).bind fun v4=>
  (idx v4 n).bind fun _=>
  (ag aD v).bind fun v5=>
  (v5[n.toNat]?).bind fun v6=>
  qC i j k m inv v a b (IntKind.wrap .i64 (n+1)) c c2 t t2 out ai k9 (jg aD v (v5.set n.toNat (e3.tmod c)))
  else none
 else
  (c6 v aD).bind fun r7=>
  (ag k9 ai).bind fun v8=>
  (idx v8 j).bind fun _=>
  (ag k9 ai).bind fun v9=>
  (v9[j.toNat]?).bind fun v10=>
  let Uh:H0:=(jg k9 ai (v9.set j.toNat (v10.1,(v10.2.1,(r7,())))))
  qD i j m inv (IntKind.wrap .i64 (j+1)) c c2 t t2 out ai Uh aD
theorem wU (i j k m inv v a b n c c2 t t2 out ai k9 aD):gO i j k m inv v a b n c c2 t t2 out ai k9 aD=qB gO gP aR i j k m inv v a b n c c2 t t2 out ai k9 aD:=(l1 35 0 _).trans (by kernel_rfl)
def qE (qD:af gP)(Fo:af ko)(c6:af aR)(i:Int)(j:Int)(m:Int)(inv:Int)(n:Int)(c:Int)(c2:xx)(t:Int)(t2:Nat)(out:Int)(ai:Nat)(k9:H0)(aD:H4):Option mj:=
 bif (decide (n<(c2.length:Int))) then
  (idx c2 n).bind fun v0=>
  (Fo v0.2.2.1 (c2.length:Int) aD).bind fun r1=>
  (ag r1.2 r1.1).bind fun v2=>
  (idx v2 i).bind fun _=>
  (ag r1.2 r1.1).bind fun v3=>
  (v3[i.toNat]?).bind fun v4=>
  (ag r1.2 r1.1).bind fun v5=>
  (idx v5 j).bind fun _=>
  (ag r1.2 r1.1).bind fun v6=>
  (v6[j.toNat]?).bind fun v7=>
  let e8:Int:=(IntKind.wrap .i64 ((IntKind.wrap .i64 (c - 1))*v7))
  bif (!(c==0)) then
  bif (!(c==0)) then
  let e9:Int:=(IntKind.wrap .i64 (((IntKind.wrap .i64 ((e8.tmod c)*inv)).tmod c)*m))
  bif (!(c==0)) then
  (ag r1.2 r1.1).bind fun v10=>
  (idx v10 i).bind fun _=>
  (ag r1.2 r1.1).bind fun v11=>
  (v11[i.toNat]?).bind fun v12=>
  let WU:H4:=(jg r1.2 r1.1 (v11.set i.toNat ((IntKind.wrap .i64 (v4+e9)).tmod c)))
  (ag WU r1.1).bind fun v14=>
  (idx v14 j).bind fun _=>
  (ag WU r1.1).bind fun v15=>
  (v15[j.toNat]?).bind fun v16=>
  bif (!(c==0)) then
  (ag WU r1.1).bind fun v17=>
  (idx v17 j).bind fun _=>
  (ag WU r1.1).bind fun v18=>
  (v18[j.toNat]?).bind fun v19=>
  let e20:H4:=(jg WU r1.1 (v18.set j.toNat ((IntKind.wrap .i64 (v16*inv)).tmod c)))
  (c6 r1.1 e20).bind fun r21=>
  (ag k9 ai).bind fun v22=>
  (idx v22 n).bind fun _=>
  (ag k9 ai).bind fun v23=>
  (v23[n.toNat]?).bind fun v24=>
  let e25:H0:=(jg k9 ai (v23.set n.toNat (v24.1,(v24.2.1,(r21,())))))
  qD i j m inv (IntKind.wrap .i64 (n+1)) c c2 t t2 out ai e25 e20
  else none
  else none
  else none
  else none
 else
  (typed (hs k9 [] [] [] aD [] [] [] [] []) yH (.rv (.agg [⟨.int .i64,out⟩,⟨.ref 0,ai⟩]))).bind fun v26=>
  some v26
theorem wV (i j m inv n c c2 t t2 out ai k9 aD):gP i j m inv n c c2 t t2 out ai k9 aD=qE gP ko aR i j m inv n c c2 t t2 out ai k9 aD:=(l1 35 1 _).trans (by kernel_rfl)
def DC (qC:af gO)(KL:af pX)(I5:af nC)(Cm:af qP)(c:mj)(i:Int)(j:Int)(k:Int)(m:Int):Option mj:=
 (KL (c.1,(c.2.1,())) ([]:H0)).bind fun r0=>
 (I5 c.1 k).bind fun r1=>
 bif (iS 8 (c.2.1.length:Int) (c.2.1.length:Int)) then
 let e2:H4:=(([]:H4)++[some (List.replicate (c.2.1.length:Int).toNat 0)])
 let e3:Nat:=(([]:H4).length+1:Nat)
 (idx c.2.1 j).bind fun v4=>
 (Cm v4.2.2.1 (c.2.1.length:Int)).bind fun r5=>
 (idx c.2.1 i).bind fun v6=>
 (Cm v6.2.2.1 (c.2.1.length:Int)).bind fun r7=>
 qC i j k m r1 e3 r5 r7 0 c.1 c.2.1 0 (0:Nat) r0.1.1 r0.1.2.1 r0.2 e2
 else none
theorem Mz (c i j k m):sU c i j k m=DC gO pX nC qP c i j k m:=(e1 35 _).trans (by kernel_rfl)
def pL (pM:af eC)(p:Int)(k:Int):Option (Bool):=
 bif (decide (k<p)) then
  bif (decide (p≤251)) then
   bif (!(k==0)) then
   bif ((p.tmod k)==0) then
    some false
   else
    pM p (IntKind.wrap .i64 (k+1))
   else none
  else
   bif (decide (p≥2)) then
    some (decide (p≤251))
   else
    some false
 else
  bif (decide (p≥2)) then
   some (decide (p≤251))
  else
   some false
theorem vR (p k):eC p k=pL eC p k:=(l1 36 0 _).trans (by kernel_rfl)
def tI (pM:af eC)(p:Int):Option (Bool):=
 pM p 2
theorem Ay (p):gQ p=tI eC p:=(e1 36 _).trans (by kernel_rfl)
def pN (pO:af fT)(x:cQ)(i:Int)(out:List Int):Option (List Int):=
 bif (decide (i<(x.length:Int))) then
  (idx x i).bind fun v0=>
  (idx x i).bind fun v1=>
  (idx out v0.1).bind fun _=>
  (out[v0.1.toNat]?).bind fun v2=>
  pO x (IntKind.wrap .i64 (i+1)) (out.set v0.1.toNat v1.2.1)
 else
  some out
theorem vS (x i out):fT x i out=pN fT x i out:=(l1 38 0 _).trans (by kernel_rfl)
def Cn (pO:af fT)(x:cQ)(n:Int):Option (List Int):=
 bif (iS 8 n n) then
 pO x 0 (List.replicate n.toNat 0)
 else none
theorem KM (x n):qP x n=Cn fT x n:=(e1 38 _).trans (by kernel_rfl)
def ni (nj:af eN)(p:Int)(a:Int)(b:Int):Option (Int):=
 bif (decide (b<p)) then
  bif (!(p==0)) then
  bif (((IntKind.wrap .i64 (a*b)).tmod p)==1) then
   some b
  else
   nj p a (IntKind.wrap .i64 (b+1))
  else none
 else
  some 0
theorem sJ (p a b):eN p a b=ni eN p a b:=(l1 60 0 _).trans (by kernel_rfl)
def za (nj:af eN)(p:Int)(a:Int):Option (Int):=
 nj p a 1
theorem HI (p a):nC p a=za eN p a:=(e1 60 _).trans (by kernel_rfl)
def kb (kc:af de)(x:cQ)(out:Nat)(i:Int)(aD:H4):Option ((Nat)×H4):=
 bif (decide (i<(x.length:Int))) then
  (idx x i).bind fun v0=>
  (idx x i).bind fun v1=>
  (ag aD out).bind fun v2=>
  (idx v2 v0.1).bind fun _=>
  (ag aD out).bind fun v3=>
  (v3[v0.1.toNat]?).bind fun v4=>
  kc x out (IntKind.wrap .i64 (i+1)) (jg aD out (v3.set v0.1.toNat v1.2.1))
 else
  some (out,aD)
theorem p5 (x out i aD):de x out i aD=kb de x out i aD:=(l1 102038 0 _).trans (by kernel_rfl)
def ur (kc:af de)(x:cQ)(n:Int)(aD:H4):Option ((Nat)×H4):=
 bif (iS 8 n n) then
 let e0:H4:=(aD++[some (List.replicate n.toNat 0)])
 kc x (aD.length+1:Nat) 0 e0
 else none
theorem Ep (x n aD):ko x n aD=ur de x n aD:=(e1 102038 _).trans (by kernel_rfl)
def gA (gB:af bN)(v:Nat)(i:Int)(out:cQ)(aD:H4):Option cQ:=
 (ag aD v).bind fun v0=>
 bif (decide (i<(v0.length:Int))) then
  (ag aD v).bind fun v1=>
  (idx v1 i).bind fun _=>
  (ag aD v).bind fun v2=>
  (v2[i.toNat]?).bind fun v3=>
  bif (v3 != 0) then
   (ag aD v).bind fun v4=>
   (idx v4 i).bind fun _=>
   (ag aD v).bind fun v5=>
   (v5[i.toNat]?).bind fun v6=>
   bif (aE 16 2 out.length 1) then
   let e7:cQ:=(out++([(i,(v6,()))]:cQ))
   gB v (IntKind.wrap .i64 (i+1)) e7 aD
   else none
  else
   gB v (IntKind.wrap .i64 (i+1)) out aD
 else
  some out
theorem kd (v i out aD):bN v i out aD=gA bN v i out aD:=(l1 100040 0 _).trans (by kernel_rfl)
def oC (gB:af bN)(v:Nat)(aD:H4):Option cQ:=
 gB v 0 ([]:cQ) aD
theorem uv (v aD):aR v aD=oC bN v aD:=(e1 100040 _).trans (by kernel_rfl)
end
end Go.Proofs.YtofjebmoebhiiaaGreatDoor.Ev
namespace Go.Proofs.YtofjebmoebhiiaaGreatDoor.Ev
open Go.Abs
noncomputable section
def rA (kZ:af cG)(a:cQ)(b:cQ)(i:Int):Option (Bool):=
 bif (decide (i<(a.length:Int))) then
  (idx a i).bind fun v0=>
  (idx b i).bind fun v1=>
  bif (!(Bb yT (v0.1,(v0.2.1,())) (v1.1,(v1.2.1,())))) then
   some false
  else
   kZ a b (IntKind.wrap .i64 (i+1))
 else
  some true
theorem Co (a b i):cG a b i=rA cG a b i:=(l1 23 0 _).trans (by kernel_rfl)
def vT (kZ:af cG)(a:cQ)(b:cQ):Option (Bool):=
 bif ((a.length:Int) != (b.length:Int)) then
  some false
 else
  kZ a b 0
theorem Fp (a b):iz a b=vT cG a b:=(e1 23 _).trans (by kernel_rfl)
end
end Go.Proofs.YtofjebmoebhiiaaGreatDoor.Ev
namespace Go.Proofs.YtofjebmoebhiiaaGreatDoor.Ev
open Go.Abs
noncomputable section
end
end Go.Proofs.YtofjebmoebhiiaaGreatDoor.Ev
namespace Go.Proofs.YtofjebmoebhiiaaGreatDoor.Ev
open Go.Abs
noncomputable section
def DD (w:Nat):af slices_SortFunc:=fun x hp=>agZ x hp
theorem MA (w:Nat):DD w=slices_SortFunc:=funext fun x=>funext fun hp=>(Di T B lf 50 ((x,()),hp)).symm
def Cq (w:Nat):af lu:=fun s=>bif aE 16 2 0 s.length then some s else none
theorem Hh (w:Nat):Cq w=lu:=funext fun s=>(Di T B lf 84 s).symm
def uw (w:Nat):af eO:=fun s c=>bif decide (0≤c)&&decide (c<256) then some (Uj c 0 s.data.toList) else none
theorem Er (w:Nat):uw w=eO:=funext fun s=>funext fun c=>(Di T B lf 165 (s,c)).symm
def ux:=wJ cG fun w x=>rA x
theorem Es:∀w,ux w=cG:=mkLe fun _=>(x3 Co)
def vU:=gX iz fun w=>vT (ux w)
theorem Fq:∀w,vU w=iz:=bl fun w=>by rw[Es w];exact(x2 Fp)
def sK:=wJ ck fun w x=>qx x
theorem CZ:∀w,sK w=ck:=mkLe fun _=>(x3 A0)
def uy:=gX gC fun w=>uq (sK w)
theorem Et:∀w,uy w=gC:=bl fun w=>by rw[CZ w];exact(x2 Eo)
def Hi:=wJ iU fun w x=>Dx x
theorem Pt:∀w,Hi w=iU:=mkLe fun _=>(x3 Mm)
def I6:=gX u5 fun w=>IX (Hi w)
theorem Ra:∀w,I6 w=u5:=bl fun w=>by rw[Pt w];exact(x1 Q7)
def Az:=wJ eC fun w x=>pL x
theorem I7:∀w,Az w=eC:=mkLe fun _=>(x2 vR)
def tJ:=gX gQ fun w=>tI (Az w)
theorem AA:∀w,tJ w=gQ:=bl fun w=>by rw[I7 w];exact(x1 Ay)
def DE:=wJ eH fun w x=>mv x
theorem MB:∀w,DE w=eH:=mkLe fun _=>(x3 qv)
def q9:=gX aV fun w=>xO (DE w)
theorem DF:∀w,q9 w=aV:=bl fun w=>by rw[MB w];exact(x2 DA)
def AB:=wJ dh fun w x=>kC x
theorem I8:∀w,AB w=dh:=mkLe fun _=>(x2 nU)
def oD:=gX cH fun w=>tl (AB w)
theorem sf:∀w,oD w=cH:=bl fun w=>by rw[I8 w];exact(x1 Ak)
def Lq:=wJ jB fun w x=>sW x
theorem S6:∀w,Lq w=jB:=mkLe fun _=>(x2 xE)
def vV:=gX lU fun w=>Gx (Lq w)
theorem yp:∀w,vV w=lU:=bl fun w=>by rw[S6 w];exact(x1 Ll)
def Hj:=wJ gh fun w x=>pZ x
theorem Pu:∀w,Hj w=gh:=mkLe fun _=>(x5 ta)
def Ct:=gX lr fun w=>BC (Hj w) (vV w)
theorem Hk:∀w,Ct w=lr:=bl fun w=>by rw[Pu w];rw[yp w];exact(x2 Hc)
def Hl:=gX sr fun w=>zw
theorem Pv:∀w,Hl w=sr:=bl fun _=>(x2 EX)
def Hm:=gX su fun w=>zx
theorem Pw:∀w,Hm w=su:=bl fun _=>(x3 EY)
def VA:=wJ tV fun w x=>Dp x
theorem aa3:∀w,VA w=tV:=mkLe fun _=>(x5 Gy)
def I9:=gX xy fun w=>S4 (VA w)
theorem Ka:∀w,I9 w=xy:=bl fun w=>by rw[aa3 w];exact(x1 Vz)
def xP:=gX iA fun w=>xI
theorem DG:∀w,xP w=iA:=bl fun _=>(x1 Dr)
def zX:=gX jD fun w=>zM (xP w) (I9 w)
theorem Fs:∀w,zX w=jD:=bl fun w=>by rw[DG w,Ka w];exact(x1 E8)
def DH:=wJ (dD,eI,dE,dF) fun w x=>(mq x.2.1 x.2.2.1,mr x.2.1 x.1,rK x.2.2.1 x.2.2.2,rL x.2.2.2)
theorem MC:∀w,DH w=(dD,eI,dE,dF):=mkLe fun w=>by exact Prod.ext (x6 qn) (Prod.ext (x8 qo) (Prod.ext (x3 yS) ((x3 yU))))
def Ft:=gX mM fun w=>xJ (DH w).1
theorem NV:∀w,Ft w=mM:=bl fun w=>by rw[MC w];exact(x1 Dt)
def vW:=gX iV fun w=>Gv
theorem Lr:∀w,vW w=iV:=bl fun _=>(x1 Lj)
def AD:=wJ cz fun w x=>kM x (q9 w)
theorem Ja:∀w,AD w=cz:=mkLe fun w=>by rw[DF w];exact(x4 ou)
def tK:=gX ee fun w=>ov (AD w)
theorem AE:∀w,tK w=ee:=bl fun w=>by rw[Ja w];exact(x3 rZ)
def wW:=wJ bL fun w x=>dH x
theorem GK:∀w,wW w=bL:=mkLe fun _=>(x4 eX)
def zb:=gX gS fun w=>qw (wW w)
theorem HJ:∀w,zb w=gS:=bl fun w=>by rw[GK w];exact(x2 wR)
def Qw:=wJ nu fun w x=>yi x
theorem WW:∀w,Qw w=nu:=mkLe fun _=>(x3 BK)
def MD:=gX yO fun w=>Me (Qw w)
theorem Qx:∀w,MD w=yO:=bl fun w=>by rw[WW w];exact(x2 Qs)
def NW:=wJ ly fun w x=>BL x
theorem Uq:∀w,NW w=ly:=mkLe fun _=>(x2 He)
def Qy:=gX EU fun w=>IP (NW w)
theorem WX:∀w,Qy w=EU:=bl fun w=>by rw[Uq w];exact(x2 NM)
def Qz:=wJ qh fun w x=>jG x
theorem WY:∀w,Qz w=qh:=mkLe fun _=>(x3 j6)
def S7:=gX EV fun w=>Mf (Qz w)
theorem Ze:∀w,S7 w=EV:=bl fun w=>by rw[WY w];exact(x1 Qt)
def QA:=wJ nv fun w x=>yj x
theorem WZ:∀w,QA w=nv:=mkLe fun _=>(x1 BN)
def Cu:=gX mN fun w=>Mg (QA w)
theorem DI:∀w,Cu w=mN:=bl fun w=>by rw[WZ w];exact(x1 Qu)
def Px:=gX Gs fun w=>J9 (vV w)
theorem S8:∀w,Px w=Gs:=bl fun w=>by rw[yp w];exact(x1 Mb)
def p6:=gX dY fun w=>vk
theorem tL:∀w,p6 w=dY:=bl fun _=>(x2 BG)
def Cv:=wJ fg fun w x=>iF x (Ct w)
theorem KN:∀w,Cv w=fg:=mkLe fun w=>by rw[Hk w];exact(x4 kq)
def DJ:=gX oM fun w=>vh (Cv w)
theorem ME:∀w,DJ w=oM:=bl fun w=>by rw[KN w];exact(x2 BD)
def AF:=wJ (dk,dm) fun w x=>(kF x.1 x.2,kG x.2)
theorem Jb:∀w,AF w=(dk,dm):=mkLe fun w=>by exact Prod.ext (x2 od) ((x2 oe))
def Cw:=gX fz fun w=>tq (AF w).1
theorem KO:∀w,Cw w=fz:=bl fun w=>by rw[Jb w];exact(x1 An)
def AG:=wJ cB fun w x=>ky x
theorem Jc:∀w,AG w=cB:=mkLe fun _=>(x2 nS)
def Cy:=gX jQ fun w=>th (AG w)
theorem KP:∀w,Cy w=jQ:=bl fun w=>by rw[Jc w];exact(x1 Ag)
def Cz:=wJ dO fun w x=>lH x
theorem KQ:∀w,Cz w=dO:=mkLe fun _=>(x3 pf)
def p7:=gX da fun w=>vw (Cz w)
theorem tM:∀w,p7 w=da:=bl fun w=>by rw[KQ w];exact(x2 B0)
def CA:=wJ dP fun w x=>lI x
theorem KR:∀w,CA w=dP:=mkLe fun _=>(x1 pg)
def iQ:=gX bf fun w=>vz (CA w)
theorem ke:∀w,iQ w=bf:=bl fun w=>by rw[KR w];exact(x1 B1)
def AH:=gX iM fun w=>rP (uw w)
theorem Jd:∀w,AH w=iM:=bl fun w=>by rw[Er w];exact(x2 yW)
def NX:=wJ lz fun w x=>vo x
theorem Ur:∀w,NX w=lz:=mkLe fun _=>(x5 zO)
def Je:=gX tX fun w=>IT (NX w)
theorem NY:∀w,Je w=tX:=bl fun w=>by rw[Ur w];exact(x2 NO)
def AI:=wJ dp fun w x=>o8 x
theorem Jf:∀w,AI w=dp:=mkLe fun _=>(x4 vm)
def CC:=gX mP fun w=>tb (AI w) (p6 w)
theorem KS:∀w,CC w=mP:=bl fun w=>by rw[Jf w];rw[tL w];exact(x3 Ac)
def Hn:=gX sx fun w=>zE
theorem Py:∀w,Hn w=sx:=bl fun _=>(x2 E2)
def sg:=gX eK fun w=>rT
theorem zc:∀w,sg w=eK:=bl fun _=>(x1 y5)
def uz:=gX gF fun w=>mW
theorem Eu:∀w,uz w=gF:=bl fun _=>(x2 sE)
def Ls:=wJ jF fun w x=>sY x
theorem S9:∀w,Ls w=jF:=mkLe fun _=>(x6 xM)
def NZ:=gX xA fun w=>GB (Ls w)
theorem Us:∀w,NZ w=xA:=bl fun w=>by rw[S9 w];exact(x2 Lo)
def CD:=wJ dQ fun w x=>cY x
theorem KT:∀w,CD w=dQ:=mkLe fun _=>(x3 dx)
def DK:=gX oN fun w=>vj (CD w)
theorem MF:∀w,DK w=oN:=bl fun w=>by rw[KT w];exact(x2 BE)
def sL:=wJ bA fun w x=>fM x (iQ w)
theorem C0:∀w,sL w=bA:=mkLe fun w=>by rw[ke w];exact(x5 jq)
def nk:=gX aW fun w=>nc (sL w)
theorem sM:∀w,nk w=aW:=bl fun w=>by rw[C0 w];exact(x2 sG)
def AJ:=wJ dr fun w x=>o9 x
theorem Jg:∀w,AJ w=dr:=mkLe fun _=>(x2 vp)
def CE:=gX gT fun w=>tf (AJ w)
theorem KU:∀w,CE w=gT:=bl fun w=>by rw[Jg w];exact(x1 Ae)
def DL:=wJ eL fun w x=>jc x
theorem MG:∀w,DL w=eL:=mkLe fun _=>(x5 lJ)
def Fu:=gX iC fun w=>xN (DL w)
theorem N0:∀w,Fu w=iC:=bl fun w=>by rw[MG w];exact(x2 Dy)
def DM:=gX oO fun w=>ve
theorem MH:∀w,DM w=oO:=bl fun _=>(x1 Bu)
def zd:=wJ cX fun w x=>ji x
theorem HL:∀w,zd w=cX:=mkLe fun _=>(x3 mT)
def AK:=gX lB fun w=>rG (zd w)
theorem Jh:∀w,AK w=lB:=bl fun w=>by rw[HL w];exact(x1 yP)
def CF:=gX mR fun w=>Bv
theorem KV:∀w,CF w=mR:=bl fun _=>(x1 Kq)
def wX:=wJ (dv,dw) fun w x=>(tY x.2,tZ x.2 x.1)
theorem GL:∀w,wX w=(dv,dw):=mkLe fun w=>by exact Prod.ext (x4 Ed) ((x7 Ee))
def ze:=gX j5 fun w=>yQ (wX w).1
theorem HM:∀w,ze w=j5:=bl fun w=>by rw[GL w];exact(x1 HC)
def uA:=wJ bN fun w x=>gA x
theorem Ew:∀w,uA w=bN:=mkLe fun _=>(x4 kd)
def oE:=gX aR fun w=>oC (uA w)
theorem Fv:∀w,oE w=aR:=bl fun w=>by rw[Ew w];exact(x2 uv)
def uB:=wJ bO fun w x=>gw x (Hl w)
theorem Ey:∀w,uB w=bO:=mkLe fun w=>by rw[Pv w];exact(x4 j7)
def vX:=gX iD fun w=>nK (uB w)
theorem Fw:∀w,vX w=iD:=bl fun w=>by rw[Ey w];exact(x2 ua)
def uD:=wJ bP fun w x=>gz x (Hm w)
theorem Ez:∀w,uD w=bP:=mkLe fun w=>by rw[Pw w];exact(x8 j8)
def vY:=gX iE fun w=>nL (uD w)
theorem Fx:∀w,vY w=iE:=bl fun w=>by rw[Ez w];exact(x2 ub)
def zf:=wJ cR fun w x=>fN x (zb w)
theorem HN:∀w,zf w=cR:=mkLe fun w=>by rw[HJ w];exact(x3 iO)
def mC:=gX bD fun w=>rU (zf w)
theorem zg:∀w,mC w=bD:=bl fun w=>by rw[HN w];exact(x1 y7)
def sZ:=gX fF fun w=>zJ (MD w)
theorem xQ:∀w,sZ w=fF:=bl fun w=>by rw[Qx w];exact(x2 E5)
def GM:=gX sw fun w=>Ma (Px w) (p6 w)
theorem Ji:∀w,GM w=sw:=bl fun w=>by rw[S8 w,tL w];exact(x2 Qp)
def zh:=wJ cS fun w x=>jm x (iQ w)
theorem HO:∀w,zh w=cS:=mkLe fun w=>by rw[ke w];exact(x4 mX)
def eF:=gX aq fun w=>rQ (zh w)
theorem fC:∀w,eF w=aq:=bl fun w=>by rw[HO w];exact(x1 yY)
def CG:=wJ dL fun w x=>lF x
theorem KW:∀w,CG w=dL:=mkLe fun _=>(x3 pe)
def eM:=gX al fun w=>vu (CG w) (iQ w)
theorem gV:∀w,eM w=al:=bl fun w=>by rw[KW w];rw[ke w];exact(x2 BW)
def DN:=gX oL fun w=>vq (AH w)
theorem MI:∀w,DN w=oL:=bl fun w=>by rw[Jd w];exact(x2 BT)
def A3:=gX iX fun w=>GA (Cu w)
theorem EA:∀w,A3 w=iX:=bl fun w=>by rw[DI w];exact(x2 Lm)
def zi:=gX jZ fun w=>ql (CC w)
theorem HP:∀w,zi w=jZ:=bl fun w=>by rw[KS w];exact(x2 wL)
def Jj:=wJ iB fun w x=>q6 x
theorem Rb:∀w,Jj w=iB:=mkLe fun _=>(x4 vi)
def Lt:=gX tW fun w=>Ef (Jj w) (Hn w) (DK w)
theorem Ta:∀w,Lt w=tW:=bl fun w=>by rw[Rb w];rw[Py w,MF w];exact(x4 IM)
def qF:=wJ (cV,cW) fun w x=>(jn x.1 (eM w),jo x.2 (eM w))
theorem HQ:∀w,qF w=(cV,cW):=mkLe fun w=>by rw[gV w];exact Prod.ext (x2 mY) ((x2 mZ))
def je:=gX bE fun w=>rR (qF w).1 (qF w).2
theorem lL:∀w,je w=bE:=bl fun w=>by rw[HQ w];exact(x1 yZ)
def DO:=gX iY fun w=>vv (sg w)
theorem MJ:∀w,DO w=iY:=bl fun w=>by rw[zc w];exact(x1 BY)
def AM:=wJ dn fun w x=>kz x
theorem Jk:∀w,AM w=dn:=mkLe fun _=>(x3 nT)
def oF:=gX dd fun w=>ti (AM w) (sg w)
theorem sh:∀w,oF w=dd:=bl fun w=>by rw[Jk w];rw[zc w];exact(x1 Ah)
def uE:=gX gE fun w=>mV (uz w)
theorem EB:∀w,uE w=gE:=bl fun w=>by rw[Eu w];exact(x2 sD)
def QB:=wJ (eJ,jE,gi,lA) fun w x=>(yk x.2.1 (Je w),ym x.2.2.1 x.2.1,yn x.2.2.1 x.2.2.2 x.1,yo x.2.2.2 x.1)
theorem W0:∀w,QB w=(eJ,jE,gi,lA):=mkLe fun w=>by rw[NY w];exact Prod.ext (x6 BP) (Prod.ext (x8 BQ) (Prod.ext (x10 BR) ((x11 BS))))
def Tc:=gX EW fun w=>Mh (QB w).1 (NZ w) (Cu w)
theorem Zf:∀w,Tc w=EW:=bl fun w=>by rw[W0 w];rw[Us w,DI w];exact(x2 Qv)
def wY:=gX gd fun w=>pj (eF w) (eM w)
theorem GN:∀w,wY w=gd:=bl fun w=>by rw[fC w,gV w];exact(x1 vC)
def Fy:=gX mQ fun w=>xL (CE w)
theorem N1:∀w,Fy w=mQ:=bl fun w=>by rw[KU w];exact(x1 Dw)
def vZ:=gX gj fun w=>vD (oF w) (je w) (eF w) (Fu w) (eM w) (p7 w) (nk w)
theorem CH:∀w,vZ w=gj:=bl fun w=>by rw[sh w,lL w,fC w,N0 w,gV w,tM w,sM w];exact(x2 B2)
def sN:=gX ef fun w=>lX (vX w)
theorem C1:∀w,sN w=ef:=bl fun w=>by rw[Fw w];exact(x2 rm)
def sO:=gX eg fun w=>lY (vY w)
theorem C2:∀w,sO w=eg:=bl fun w=>by rw[Fx w];exact(x2 rq)
def Fz:=gX mK fun w=>xG (zX w) (I9 w) (sZ w) (Ft w)
theorem N2:∀w,Fz w=mK:=bl fun w=>by rw[Fs w,Ka w,xQ w,NV w];exact(x1 Dm)
def pP:=gX di fun w=>pb (eF w) (eM w)
theorem wa:∀w,pP w=di:=bl fun w=>by rw[fC w,gV w];exact(x1 vt)
def Lu:=gX tU fun w=>En (DN w)
theorem Td:∀w,Lu w=tU:=bl fun w=>by rw[MI w];exact(x2 IV)
def Ho:=gX oW fun w=>zL (A3 w)
theorem Pz:∀w,Ho w=oW:=bl fun w=>by rw[EA w];exact(x1 E7)
def MK:=gX yN fun w=>L9 (Px w) (p6 w) (zi w)
theorem QC:∀w,MK w=yN:=bl fun w=>by rw[S8 w,tL w,HP w];exact(x2 Qo)
def wb:=gX iW fun w=>Gw (DJ w) (GM w) (Lt w)
theorem EC:∀w,wb w=iW:=bl fun w=>by rw[ME w,Ji w,Ta w];exact(x4 Lk)
def DP:=gX lh fun w=>vE (oD w) (DO w)
theorem ML:∀w,DP w=lh:=bl fun w=>by rw[sf w,MJ w];exact(x1 B3)
def lM:=gX bJ fun w=>qp (eF w) (p7 w)
theorem pQ:∀w,lM w=bJ:=bl fun w=>by rw[fC w,tM w];exact(x2 wM)
def AN:=wJ (bu,dj,cA) fun w x=>(kt x.2.1 x.2.2,ku x.2.1 x.1,kx x.2.2 (eM w))
theorem Jl:∀w,AN w=(bu,dj,cA):=mkLe fun w=>by rw[gV w];exact Prod.ext (x6 nN) (Prod.ext (x7 nO) ((x4 nP)))
def CI:=gX fu fun w=>tg (AN w).1 (oF w) (je w) (eF w)
theorem KX:∀w,CI w=fu:=bl fun w=>by rw[Jl w];rw[sh w,lL w,fC w];exact(x2 Af)
def FA:=wJ (dc,fw) fun w x=>(nI x.2 (A3 w),nJ x.2 x.1)
theorem N3:∀w,FA w=(dc,fw):=mkLe fun w=>by rw[EA w];exact Prod.ext (x10 rM) ((x16 rN))
def Hp:=gX oY fun w=>zN (FA w).1
theorem PA:∀w,Hp w=oY:=bl fun w=>by rw[N3 w];exact(x2 E9)
def AO:=gX iJ fun w=>rO (uE w)
theorem Jm:∀w,AO w=iJ:=bl fun w=>by rw[EB w];exact(x2 yV)
def QD:=gX xz fun w=>IQ (MD w) (Je w) (Cu w) (Tc w)
theorem W1:∀w,QD w=xz:=bl fun w=>by rw[Qx w,NY w,DI w,Zf w];exact(x2 NN)
def FB:=gX mO fun w=>xK (Fy w)
theorem N4:∀w,FB w=mO:=bl fun w=>by rw[N1 w];exact(x1 Du)
def CJ:=gX jR fun w=>tj (pP w) (vZ w)
theorem KY:∀w,CJ w=jR:=bl fun w=>by rw[wa w,CH w];exact(x2 Ai)
def wc:=wJ (ch,ak,bk,bw) fun w x=>(gZ x.1 x.2.1 (DM w) (AK w),hU x.2.2.1 x.2.1 x.2.2.2 (Cq w) (vW w),ic x.2.2.1,ie x.2.2.2 x.2.1 (MK w) (GM w) (wb w) (vW w))
theorem FC:∀w,wc w=(ch,ak,bk,bw):=mkLe fun w=>by rw[MH w,Jh w,Hh w,Lr w,QC w,Ji w,EC w];exact Prod.ext (x11 kQ) (Prod.ext (x11 kR) (Prod.ext (x7 kS) ((x14 kT))))
def wZ:=gX gf fun w=>o7 (wc w).1
theorem GO:∀w,wZ w=gf:=bl fun w=>by rw[FC w];exact(x2 vf)
def uF:=wJ (cI,bp,cJ,cK) fun w x=>(ri x.1 x.2.1 (CF w) (ze w),rj x.2.2.1 x.2.1 x.2.2.2 (Cq w) (vW w),rk x.2.2.1,rl x.2.2.2 x.2.1 (MK w) (GM w) (wb w) (vW w))
theorem ED:∀w,uF w=(cI,bp,cJ,cK):=mkLe fun w=>by rw[KV w,HM w,Hh w,Lr w,QC w,Ji w,EC w];exact Prod.ext (x11 By) (Prod.ext (x11 Bz) (Prod.ext (x7 BA) ((x14 BB))))
def oG:=gX dR fun w=>vg (uF w).1
theorem uG:∀w,oG w=dR:=bl fun w=>by rw[ED w];exact(x2 E1)
def Hq:=gX oT fun w=>zF (Ho w)
theorem PB:∀w,Hq w=oT:=bl fun w=>by rw[Pz w];exact(x1 E3)
def zj:=gX bH fun w=>qu (oD w) (lM w) (CI w)
theorem HR:∀w,zj w=bH:=bl fun w=>by rw[sf w,pQ w,KX w];exact(x2 wP)
def Jn:=wJ (mL,eZ) fun w x=>(xB x.2 (wb w),lC x.2 (wb w))
theorem Rc:∀w,Jn w=(mL,eZ):=mkLe fun w=>by rw[EC w];exact Prod.ext (x6 Dk) ((x6 nE))
def Lv:=gX tT fun w=>Ec (Jn w).1
theorem Te:∀w,Lv w=tT:=bl fun w=>by rw[Rc w];exact(x2 IK)
def Hr:=gX oU fun w=>zG (zX w) (Hp w) (sZ w)
theorem PC:∀w,Hr w=oU:=bl fun w=>by rw[Fs w,PA w,xQ w];exact(x2 E4)
def QE:=wJ (jC,nt) fun w x=>(ye x.2 (A3 w),yf x.2 x.1)
theorem W2:∀w,QE w=(jC,nt):=mkLe fun w=>by rw[EA w];exact Prod.ext (x6 BI) ((x10 BJ))
def Tf:=gX ET fun w=>Md (QE w).1 (AO w)
theorem Zg:∀w,Tf w=ET:=bl fun w=>by rw[W2 w];rw[Jm w];exact(x1 Qq)
def FD:=wJ ed fun w x=>tc x (S7 w) (Qy w) (I9 w) (QD w) (Cu w)
theorem N5:∀w,FD w=ed:=mkLe fun w=>by rw[Ze w,WX w,Ka w,W1 w,DI w];exact(x4 Ad)
def Hs:=gX oV fun w=>zK (FD w)
theorem PD:∀w,Hs w=oV:=bl fun w=>by rw[N5 w];exact(x2 E6)
def we:=wJ (bj,cg,aG) fun w x=>(ig x.2.1 x.2.2 (iQ w),l8 x.2.1 x.1 (p7 w) (nk w),ik x.2.2 (eM w) (CJ w) (vZ w))
theorem FE:∀w,we w=(bj,cg,aG):=mkLe fun w=>by rw[ke w,tM w,sM w,gV w,KY w,CH w];exact Prod.ext (x8 kX) (Prod.ext (x9 rz) ((x6 kY)))
def pR:=gX dq fun w=>ph (we w).1 (oF w) (je w) (eF w) (iQ w)
theorem wg:∀w,pR w=dq:=bl fun w=>by rw[FE w];rw[sh w,lL w,fC w,ke w];exact(x2 vB)
def yq:=gX gg fun w=>yd (Lu w) (Tf w) (I9 w) (xP w) (sZ w) (Hs w)
theorem CK:∀w,yq w=gg:=bl fun w=>by rw[Td w,Zg w,Ka w,DG w,xQ w,PD w];exact(x1 BH)
def N6:=gX Br fun w=>GC (yq w) (FB w)
theorem Ut:∀w,N6 w=Br:=bl fun w=>by rw[CK w,N4 w];exact(x1 Lp)
def w6:=wJ cp fun w x=>na x (pR w)
theorem GP:∀w,w6 w=cp:=mkLe fun w=>by rw[wg w];exact(x2 sF)
def qG:=gX dN fun w=>qq (w6 w) (wY w)
theorem w7:∀w,qG w=dN:=bl fun w=>by rw[GP w];rw[GN w];exact(x2 wO)
def Lw:=gX tS fun w=>Em (N6 w)
theorem Tg:∀w,Lw w=tS:=bl fun w=>by rw[Ut w];exact(x1 IU)
def Ht:=gX oX fun w=>zS (oD w) (Cy w) (lM w) (qG w)
theorem PE:∀w,Ht w=oX:=bl fun w=>by rw[sf w,KP w,pQ w,w7 w];exact(x1 Fg)
def zk:=gX j0 fun w=>y6 (lM w) (pP w) (qG w) (pR w)
theorem HS:∀w,zk w=j0:=bl fun w=>by rw[pQ w,wa w,w7 w,wg w];exact(x2 HF)
def Jo:=wJ dJ fun w x=>qW x (yq w) (Lw w) (Ct w) (sN w) (sO w) (Lv w) (Hr w)
theorem Re:∀w,Jo w=dJ:=mkLe fun w=>by rw[CK w,Tg w,Hk w,C1 w,C2 w,Te w,PC w];exact(x9 u7)
def yr:=gX jA fun w=>Eb (Jo w) (vV w)
theorem CL:∀w,yr w=jA:=bl fun w=>by rw[Re w];rw[yp w];exact(x1 IJ)
def CM:=gX fp fun w=>tk (DP w) (Ht w)
theorem KZ:∀w,CM w=fp:=bl fun w=>by rw[ML w,PE w];exact(x1 Aj)
def w8:=gX fX fun w=>wQ (je w) (zk w)
theorem GQ:∀w,w8 w=fX:=bl fun w=>by rw[lL w,HS w];exact(x2 GG)
def DQ:=gX lb fun w=>vO (Cw w) (CM w) (tK w)
theorem MM:∀w,DQ w=lb:=bl fun w=>by rw[KO w,KZ w,AE w];exact(x2 Cf)
def Hu:=gX lV fun w=>zD (yr w) (wZ w)
theorem PF:∀w,Hu w=lV:=bl fun w=>by rw[CL w,GO w];exact(x2 EZ)
def FF:=gX qi fun w=>E0 (yr w) (oG w)
theorem N7:∀w,FF w=qi:=bl fun w=>by rw[CL w,uG w];exact(x2 NI)
def Lx:=wJ (jy,gY,sq,eV,iy) fun w x=>(sV x.1 x.2.1 (yq w) (Hq w) (Fz w),Ha x.2.2.1,Hb x.2.2.2.1 x.2.1,qY x.2.2.2.1 x.2.2.2.2,qZ x.2.2.2.1)
theorem Th:∀w,Lx w=(jy,gY,sq,eV,iy):=mkLe fun w=>by rw[CK w,PB w,N2 w];exact Prod.ext (x10 xC) (Prod.ext (x9 Pj) (Prod.ext (x12 Pk) (Prod.ext (x13 vb) ((x10 vc)))))
def GR:=gX lT fun w=>Gt (Lx w).1 (yr w)
theorem Ly:∀w,GR w=lT:=bl fun w=>by rw[Th w];rw[CL w];exact(x1 Lh)
def FG:=gX fJ fun w=>xD (Hu w)
theorem N8:∀w,FG w=fJ:=bl fun w=>by rw[PF w];exact(x1 Dl)
def Lz:=gX yM fun w=>Li (FF w)
theorem Ti:∀w,Lz w=yM:=bl fun w=>by rw[N7 w];exact(x1 S2)
def AP:=wJ eB fun w x=>wK x (DD w)
theorem Jp:∀w,AP w=eB:=mkLe fun w=>by rw[MA w];exact(x10 Gu)
def CN:=gX mJ fun w=>Bt (AP w) (GR w) (oG w)
theorem K0:∀w,CN w=mJ:=bl fun w=>by rw[Jp w];rw[Ly w,uG w];exact(x1 Kp)
def AQ:=wJ (cw,dg) fun w x=>(kJ x.2 (DQ w) (mC w),kK x.2 x.1 (tK w) (zj w))
theorem Jq:∀w,AQ w=(cw,dg):=mkLe fun w=>by rw[MM w,zg w,AE w,HR w];exact Prod.ext (x2 oi) ((x4 oo))
def CO:=gX jN fun w=>tG (AQ w).1
theorem K1:∀w,CO w=jN:=bl fun w=>by rw[Jq w];exact(x1 Au)
def FH:=wJ (jK,gM,gN,cM,dC,eG) fun w x=>(Ch x.2.1 (mC w),Ci x.2.2.1 x.2.2.2.1 (oE w),Cj x.2.2.1 x.2.1 (q9 w),my x.2.2.2.2.1 (mC w),mz x.2.2.2.2.2 x.2.2.2.1 (oE w),mB x.2.2.2.2.2 x.2.2.2.2.1 (q9 w))
theorem N9:∀w,FH w=(jK,gM,gN,cM,dC,eG):=mkLe fun w=>by rw[zg w,Fv w,DF w];exact Prod.ext (x7 KH) (Prod.ext (x11 KI) (Prod.ext (x12 KJ) (Prod.ext (x9 qy) (Prod.ext (x12 qz) ((x13 qA))))))
def Hv:=gX jz fun w=>zV (FH w).1 (tJ w) (CO w)
theorem PG:∀w,Hv w=jz:=bl fun w=>by rw[N9 w];rw[AA w,K1 w];exact(x2 Fm)
def zl:=gX jY fun w=>yX (Hv w)
theorem HU:∀w,zl w=jY:=bl fun w=>by rw[PG w];exact HE.symm
def MN:=gX jJ fun w=>BV (zl w) (FG w) (Lz w) (CN w) (GR w) (vU w) (I6 w) (uy w)
theorem K2:∀w,MN w=jJ:=bl fun w=>by rw[HU w,N8 w,Ti w,K0 w,Ly w,Fq w,Ra w,Et w];exact Ku.symm
end
end Go.Proofs.YtofjebmoebhiiaaGreatDoor.Ev
namespace Go.Proofs.YtofjebmoebhiiaaGreatDoor.clearLaid
open Go.ChangeShapes Go.WideShapes Go.ChangeAt Go.RowKit
abbrev laid:List (String×DataW Unit):=[("torus/clear.standard",Rows.laid_torus_clear_standard),("torus/clear.twist",Rows.laid_torus_clear_twist)]
theorem own:ownKnob Tryz.prog.godebug=none:=by kernel_rfl
theorem g0:Tryz.prog.globalNamed "torus/clear.standard" =some 0:=by kernel_rfl
theorem g1:Tryz.prog.globalNamed "torus/clear.twist" =some 1:=by kernel_rfl
theorem t0:(Tryz.prog.globals[0]?).map (·.type)=some 86:=by kernel_rfl
theorem t1:(Tryz.prog.globals[1]?).map (·.type)=some 86:=by kernel_rfl
theorem ag5 (os:Os)(args:Array Value):laidMetH Tryz.prog laid ((World.doorLaid Tryz.prog 19 os).forCall (fun _ _=>0) ⟨#[],args,[]⟩).memory:=
 laidMetH_of_parts3 (fuel:=8) (laidMet_of_run' 8 (by kernel_rfl) (by kernel_rfl)) (by kernel_rfl) (by kernel_rfl)
theorem ajp {W:World}(h:laidMetH Tryz.prog laid W):W.cell? ⟨0,0,none⟩=some (.func (.func 196) #[] #[])∧W.cell? ⟨0,1,none⟩=some (.bool false)∧
  W.cell? ⟨1,0,none⟩=some (.func (.func 198) #[] #[])∧W.cell? ⟨1,1,none⟩=some (.bool true):=by
 have one:∀(name:String) (gn:Nat) (b0:UInt8) (r:List UInt8) (b:Bool) (f0:FuncId),(name,DataW.iface "func table" (.agg [.iface "func" (.lit (.string (b0::r))), .lit (.bool b)]))∈laid→Tryz.prog.globalNamed name=some gn→(Tryz.prog.globals[gn]?).map (·.type)=some 86→
   (((List.range Tryz.prog.funcs.size).filter fun f=>(Tryz.prog.funcs[f]?).any (·.name.toUTF8.data.toList==b0::r))=[f0])→W.cell? ⟨gn,0,none⟩=some (.func (.func f0) #[] #[])∧W.cell? ⟨gn,1,none⟩=some (.bool b):=by
  intro name gn b0 r b f0 hm hgn htn hone
  obtain⟨g,t,cs,fuel,p,hg,ht,hv,hd⟩:=h.funcs hm
  obtain rfl:=Option.some.inj (hgn.symm.trans hg)
  obtain rfl:=Option.some.inj (htn.symm.trans ht)
  have XR:DataW.trod (funcToken Tryz.prog) Tryz.prog W 0 (fun _=>true) true fuel 86 cs.toList=some (.agg [.held (b0::r), .lit (.bool b)],p):=hd
  obtain⟨y0,y1,n,hx,hl,h0,h1⟩:=trod_struct2 Tryz.underlying86 XR
  have hl':cs.toList.length=2:=hl.trans (by kernel_rfl)
  obtain⟨l⟩:=cs
  simp only at hl' h0 h1
  match l,hl' with
  | [c0,c1],_=>
    have e84:Tryz.prog.cellsOf 84=1:=by kernel_rfl
    have e4:Tryz.prog.cellsOf 4=1:=by kernel_rfl
    rw[e84] at h0
    rw[e4] at h1
    simp only[Prod.mk.injEq,DataW.agg.injEq,List.cons.injEq,and_true] at hx
    have k0:DataW.trod (funcToken Tryz.prog) Tryz.prog W 0 (fun _=>true) true n 84 [c0]=some (.held (b0::r),y0.2):=by
     have h0':DataW.trod (funcToken Tryz.prog) Tryz.prog W 0 (fun _=>true) true n 84 [c0]=some y0:=h0
     rw[h0',hx.1.1]
    obtain rfl:=func_of_trod (f0:=f0) Tryz.underlying84 hone k0
    have v0:=World.var?_cell hgn hv 0
    have v1:=World.var?_cell hgn hv 1
    obtain⟨b',e1,e2⟩:=DataW.trod_bool Tryz.underlying4 (show DataW.trod (funcToken Tryz.prog) Tryz.prog W 0 (fun _=>true) true n 4 [c1]=some y1 from h1)
    simp only[List.cons.injEq,and_true] at e1
    subst e1
    have e3:=hx.1.2
    rw[e2] at e3
    simp only[DataW.lit.injEq,Lit.bool.injEq] at e3
    subst e3
    exact⟨v0,v1⟩
 obtain⟨a1,a2⟩:=one "torus/clear.standard" 0 _ _ false 196 (List.mem_cons_self ..) g0 t0 (by kernel_rfl)
 obtain⟨a3,a4⟩:=one "torus/clear.twist" 1 _ _ true 198 (List.mem_cons_of_mem _ (List.mem_cons_self ..)) g1 t1 (by kernel_rfl)
 exact⟨a1,a2,a3,a4⟩
theorem ajq {W:World}(h:laidMetH Tryz.prog laid W):Go.Abs.WB Ev.T (fun key u=>∃ad:Addr,key= .cell ad∧∃OR:Addr,Go.Abs.Key.cell ad= .cell OR∧W.cell? OR=some u):=by
 obtain⟨a1,a2,a3,a4⟩:=ajp h
 have one:∀(gn f0:Nat) (b:Bool),W.cell? ⟨gn,0,none⟩=some (.func (.func f0) #[] #[])→W.cell? ⟨gn,1,none⟩=some (.bool b)→
   Go.Abs.qc (fun key u=>∃ad:Addr,key= .cell ad∧∃OR:Addr,Go.Abs.Key.cell ad= .cell OR∧W.cell? OR=some u) [⟨.fn,f0+1⟩,⟨.bool,b⟩] (.pointer (some ⟨gn,0,none⟩)):=fun gn f0 b h1 h2=>
  ⟨⟨gn,0,none⟩,[.func (.func f0) #[] #[], .bool b],rfl,⟨rfl,rfl,trivial⟩,fun j u hj=>by
    match j,hj with
    |0,hj=>cases hj;exact⟨_,rfl,_,rfl,h1⟩
    |1,hj=>cases hj;exact⟨_,rfl,_,rfl,h2⟩
    |j+2,hj=>simp at hj⟩
 intro i x hx
 have hx':Go.Abs.look [(1000000000,Go.Abs.AV.oR [⟨.fn,(197:Nat)⟩,⟨.bool,false⟩]),(1000000001,Go.Abs.AV.oR [⟨.fn,(199:Nat)⟩,⟨.bool,true⟩])] i=some x:=hx
 have hm:=Go.Abs.yB hx'
 simp only[List.mem_cons,List.not_mem_nil,or_false,Prod.mk.injEq] at hm
 rcases hm with ⟨rfl,rfl⟩ | ⟨rfl,rfl⟩
 ·exact⟨0,_,rfl,rfl,one 0 196 false a1 a2⟩
 ·exact⟨1,_,rfl,rfl,one 1 198 true a3 a4⟩
end Go.Proofs.YtofjebmoebhiiaaGreatDoor.clearLaid
namespace Go.Proofs.YtofjebmoebhiiaaGreatDoor
open Go.Shelf Go.Proofs
def W3:Go.Shelf.Ren:=⟨fun |6=>50 |15=>91 |14=>90 |28=>132 |29=>133 |20=>124 |21=>125 |22=>126 |23=>127 |24=>128 |25=>129 |26=>130 |27=>131 |46=>156 |47=>157 |48=>158 |49=>159 |50=>160 |57=>172 |n=>n,fun |22=>46 |24=>58 |25=>98 |3=>3 |39=>149 |0=>0 |53=>168 |55=>171 |4=>4 |46=>184 |45=>183 |50=>140 |5=>5 |9=>9 |66=>209 |70=>213 |76=>222 |77=>223 |n=>n,fun |n=>n⟩
theorem Zh:Go.Proofs.SlLaysF0.n6 Tryz.prog W3 where
 mixed:=by kernel_rfl
 f6:=⟨"slices.SortFunc[[]torus/api.Pair,torus/api.Pair]",by decide,Tryz.func50.trans (congrArg some (by kernel_rfl))⟩
 f14:=⟨"slices.pdqsortCmpFunc[torus/api.Pair]",by decide,Tryz.func90.trans (congrArg some (by kernel_rfl))⟩
 f15:=Tryz.func91.trans (congrArg some (by kernel_rfl))
 f20:=⟨"slices.insertionSortCmpFunc[torus/api.Pair]",by decide,Tryz.func124.trans (congrArg some (by kernel_rfl))⟩
 f21:=⟨"slices.heapSortCmpFunc[torus/api.Pair]",by decide,Tryz.func125.trans (congrArg some (by kernel_rfl))⟩
 f22:=⟨"slices.breakPatternsCmpFunc[torus/api.Pair]",by decide,Tryz.func126.trans (congrArg some (by kernel_rfl))⟩
 f23:=⟨"slices.choosePivotCmpFunc[torus/api.Pair]",by decide,Tryz.func127.trans (congrArg some (by kernel_rfl))⟩
 f24:=⟨"slices.reverseRangeCmpFunc[torus/api.Pair]",by decide,Tryz.func128.trans (congrArg some (by kernel_rfl))⟩
 f25:=⟨"slices.partialInsertionSortCmpFunc[torus/api.Pair]",by decide,Tryz.func129.trans (congrArg some (by kernel_rfl))⟩
 f26:=⟨"slices.partitionEqualCmpFunc[torus/api.Pair]",by decide,Tryz.func130.trans (congrArg some (by kernel_rfl))⟩
 f27:=⟨"slices.partitionCmpFunc[torus/api.Pair]",by decide,Tryz.func131.trans (congrArg some (by kernel_rfl))⟩
 f28:=Tryz.func132.trans (congrArg some (by kernel_rfl))
 f29:=Tryz.func133.trans (congrArg some (by kernel_rfl))
 f46:=⟨"slices.siftDownCmpFunc[torus/api.Pair]",by decide,Tryz.func156.trans (congrArg some (by kernel_rfl))⟩
 f47:=Tryz.func157.trans (congrArg some (by kernel_rfl))
 f48:=Tryz.func158.trans (congrArg some (by kernel_rfl))
 f49:=⟨"slices.medianAdjacentCmpFunc[torus/api.Pair]",by decide,Tryz.func159.trans (congrArg some (by kernel_rfl))⟩
 f50:=⟨"slices.medianCmpFunc[torus/api.Pair]",by decide,Tryz.func160.trans (congrArg some (by kernel_rfl))⟩
 f57:=⟨"slices.order2CmpFunc[torus/api.Pair]",by decide,Tryz.func172.trans (congrArg some (by kernel_rfl))⟩
 t0:=Tryz.underlying0
 a0:=Tryz.isAgg0
 z0:=Tryz.sizeOf0
 v0:=Tryz.zeroValue0
 t3:=Tryz.underlying3
 a3:=Tryz.isAgg3
 z3:=Tryz.sizeOf3
 v3:=Tryz.zeroValue3
 t4:=Tryz.underlying4
 a4:=Tryz.isAgg4
 z4:=Tryz.sizeOf4
 v4:=Tryz.zeroValue4
 t5:=Tryz.underlying5
 a5:=Tryz.isAgg5
 z5:=Tryz.sizeOf5
 v5:=Tryz.zeroValue5
 t9:=Tryz.underlying9
 a9:=Tryz.isAgg9
 z9:=Tryz.sizeOf9
 v9:=Tryz.zeroValue9
 t22:=Tryz.underlying46
 a22:=Tryz.isAgg46
 z22:=Tryz.sizeOf46
 v22:=Tryz.zeroValue46
 t25:=Tryz.underlying98
 a25:=Tryz.isAgg98
 z25:=Tryz.sizeOf98
 v25:=Tryz.zeroValue98
 t39:=Tryz.underlying149
 a39:=Tryz.isAgg149
 z39:=Tryz.sizeOf149
 v39:=Tryz.zeroValue149
 t45:=Tryz.underlying183
 a45:=Tryz.isAgg183
 z45:=Tryz.sizeOf183
 v45:=Tryz.zeroValue183
 t46:=Tryz.underlying184
 a46:=Tryz.isAgg184
 z46:=Tryz.sizeOf184
 v46:=Tryz.zeroValue184
 t50:=Tryz.underlying140
 a50:=Tryz.isAgg140
 z50:=Tryz.sizeOf140
 v50:=Tryz.zeroValue140
 t53:=Tryz.underlying168
 a53:=Tryz.isAgg168
 z53:=Tryz.sizeOf168
 v53:=Tryz.zeroValue168
 t55:=Tryz.underlying171
 a55:=Tryz.isAgg171
 z55:=Tryz.sizeOf171
 v55:=Tryz.zeroValue171
 t66:=Tryz.underlying209
 a66:=Tryz.isAgg209
 z66:=Tryz.sizeOf209
 v66:=Tryz.zeroValue209
 t70:=Tryz.underlying213
 a70:=Tryz.isAgg213
 z70:=Tryz.sizeOf213
 v70:=Tryz.zeroValue213
 t76:=Tryz.underlying222
 a76:=Tryz.isAgg222
 z76:=Tryz.sizeOf222
 v76:=Tryz.zeroValue222
 t77:=Tryz.underlying223
 a77:=Tryz.isAgg223
 z77:=Tryz.sizeOf223
 v77:=Tryz.zeroValue223
end Go.Proofs.YtofjebmoebhiiaaGreatDoor
namespace Go.Proofs.YtofjebmoebhiiaaGreatDoor.Ev
open Go.Abs
abbrev Up (l:List (Int×Int×Unit)):Prop:=l.Pairwise fun a b=>a.1<b.1
theorem Tj {x y:Int×Int×Unit}:∀{l:List (Int×Int×Unit)},y∈Zb x l↔y=x∨y∈l
 | []=>by simp[Zb]
 |z::r=>by
  unfold Zb
  cases decide (x.1<z.1) with
  |true=>simp
  |false=>simp only[cond_false,List.mem_cons,Tj (l:=r)];constructor<;>rintro (h |h |h)<;>simp[h]
theorem PH {y:Int×Int×Unit}:∀{l:List (Int×Int×Unit)},y∈Ab l↔y∈l
 | []=>by simp[Ab]
 |x::r=>by rw[Ab,Tj,PH (l:=r)];simp
theorem acE {x:Int×Int×Unit}:∀{l:List (Int×Int×Unit)},Up l→(∀y∈l,x.1≠y.1)→Up (Zb x l)
 | [],_,_=>by simp[Zb,Up]
 |z::r,h,hn=>by
  unfold Zb
  have h':=List.pairwise_cons.1 h
  by_cases e:x.1<z.1
  ·rw[show decide (x.1<z.1)=true by simpa using e,cond_true]
   exact List.pairwise_cons.2 ⟨fun y hy=>by
    rcases List.mem_cons.1 hy with rfl |hy
    ·exact e
    ·have:=h'.1 y hy;omega,h⟩
  ·rw[show decide (x.1<z.1)=false by simpa using e,cond_false]
   refine List.pairwise_cons.2 ⟨fun y hy=> ?_,acE h'.2 fun y hy=>hn y (List.mem_cons_of_mem _ hy)⟩
   rcases Tj.1 hy with rfl |hy
   ·have:=hn z (List.mem_cons_self);omega
   ·exact h'.1 y hy
abbrev Ds (l:List (Int×Int×Unit)):Prop:=l.Pairwise fun a b=>a.1≠b.1
theorem Zi:∀{l:List (Int×Int×Unit)},Ds l→Up (Ab l)
 | [],_=>List.Pairwise.nil
 |x::r,h=>by
  have h':=List.pairwise_cons.1 h
  exact acE (Zi h'.2) fun y hy=>h'.1 y (PH.1 hy)
theorem ag6:∀{a b:List (Int×Int×Unit)},Up a→Up b→(∀x,x∈a↔x∈b)→a=b
 | [],[],_,_,_=>rfl
 | [],y::s,_,_,h=>by have:=(h y).2 List.mem_cons_self;cases this
 |x::r,[],_,_,h=>by have:=(h x).1 List.mem_cons_self;cases this
 |x::r,y::s,ha,hb,h=>by
  have ha':=List.pairwise_cons.1 ha
  have hb':=List.pairwise_cons.1 hb
  have e:x=y:=by
   rcases List.mem_cons.1 ((h x).1 List.mem_cons_self) with e |h1
   ·exact e
   ·rcases List.mem_cons.1 ((h y).2 List.mem_cons_self) with e |h2
    ·exact e.symm
    ·have:=hb'.1 x h1;have:=ha'.1 y h2;omega
  subst e
  rw[ag6 ha'.2 hb'.2 fun z=> ?_]
  constructor
  ·intro hz
   rcases List.mem_cons.1 ((h z).1 (List.mem_cons_of_mem _ hz)) with rfl |h3
   ·have:=ha'.1 _ hz;omega
   ·exact h3
  ·intro hz
   rcases List.mem_cons.1 ((h z).2 (List.mem_cons_of_mem _ hz)) with rfl |h3
   ·have:=hb'.1 _ hz;omega
   ·exact h3
theorem acF:∀{l:List (Int×Int×Unit)},okT l=true↔(∀x∈l,0≤x.1∧x.1<1000000000)∧Ds l
 | []=>by simp[okT,Ds]
 |x::r=>by
  rw[okT]
  simp only[Bool.and_eq_true,decide_eq_true_eq,List.all_eq_true,Bool.not_eq_true',decide_eq_false_iff_not,acF (l:=r),List.mem_cons,forall_eq_or_imp,Ds,List.pairwise_cons]
  constructor
  ·rintro ⟨⟨⟨h1,h2⟩,h3⟩,h4,h5⟩;exact⟨⟨⟨h1,h2⟩,h4⟩,h3,h5⟩
  ·rintro ⟨⟨⟨h1,h2⟩,h4⟩,h3,h5⟩;exact⟨⟨⟨h1,h2⟩,h3⟩,h4,h5⟩
theorem Ds.perm {a b:List (Int×Int×Unit)}(h:a.Perm b)(hd:Ds a):Ds b:=(h.pairwise_iff (R:=fun a b:Int×Int×Unit=>a.1≠b.1) (fun h=>Ne.symm h)).1 hd
theorem ag7 {l l':List (Int×Int×Unit)}(hd:Ds l)(hp:l'.Perm l)(hs:l'.Pairwise fun a b=>a.1≤b.1):l'=Ab l:=by
 have XR:Ds l':=hd.perm hp.symm
 refine ag6 ?_ (Zi hd) fun x=>by rw[PH,hp.mem_iff]
 exact(hs.and XR).imp fun⟨h1,h2⟩=>by omega
end Go.Proofs.YtofjebmoebhiiaaGreatDoor.Ev
namespace Go.Proofs.YtofjebmoebhiiaaGreatDoor.Ev
open Go.Shelf Go.RowKit Go.Lib Go.Sort Go.Proofs
abbrev El:=Fin 1000000000×Int
instance:Inhabited El:=⟨(⟨0,by decide⟩,0)⟩
def Jr (x:El):List Value:=[.int .i64 (x.1.val:Int), .int .i64 x.2]
def Uu (t:Int×Int×Unit):El:=(⟨t.1.toNat % 1000000000,Nat.mod_lt _ (by decide)⟩,t.2.1)
def ofE (x:El):Int×Int×Unit:=((x.1.val:Int),x.2,())
def cfE (x y:El):Int:=(x.1.val:Int) - y.1.val
theorem ltE (x y:El):ltOf cfE x y=decide (x.1.val<y.1.val):=by
 unfold ltOf cfE
 by_cases h:x.1.val<y.1.val<;>simp[h]<;>omega
theorem ap0:SWO (ltOf cfE) where
 irrefl x:=by rw[ltE];simp
 trans x y z h1 h2:=by rw[ltE] at*;simp at*;omega
 ntrans x y z h1 h2:=by rw[ltE] at*;simp at*;omega
theorem aku {t:Int×Int×Unit}(h:0≤t.1∧t.1<1000000000):ofE (Uu t)=t:=by
 obtain⟨a,b,u⟩:=t
 simp only at h
 have:((a.toNat % 1000000000:Nat):Int)=a:=by omega
 show (((a.toNat % 1000000000:Nat):Int),b,())=(a,b,u)
 rw[this]
set_option maxHeartbeats 1000000 in
theorem aep (x y:El)(W:World):Calls Tryz.prog 51 #[.agg #[.int .i64 (x.1.val:Int), .int .i64 x.2], .agg #[.int .i64 (y.1.val:Int), .int .i64 y.2]] W fun e w'=>e= .returned (.int .i64 (cfE x y))∧∃q os',w'=grow (W.drewN q) os':=by
 have hw:IntKind.i64.wrap ((x.1.val:Int) - (y.1.val:Int))=cfE x y:=by
  have:=x.1.isLt;have:=y.1.isLt
  unfold cfE;simp[IntKind.wrap,IntKind.bits,IntKind.signed];omega
 generalize cfE x y=r at hw ⊢
 go_enter Tryz.func51,Tryz.ntmps51
 go_wp2
 go_ret
 exact⟨rfl,0,_,by rw[alloc_eq_grow,alloc_eq_grow,grow_grow];rfl⟩
theorem aeq (blk off size:Nat)(w:World):CmpLays Tryz.prog 51 #[] Jr 2 cfE blk off size w:=fun _ _ _ _ x y=>aep x y _
theorem ajr:∀args w,(callFunc 51 args).run Tryz.prog w= .ok (.enter 51 args) w:=enters_of Tryz.func51 (by kernel_rfl) rfl
theorem alL (blk cap:Nat)(d:Array El)(w:World)(hH:HoldsK Jr 2 w blk 0 d)(hblk:blk<w.heap.size)(hsz:d.size<4611686018427387904):
  Calls Tryz.prog 50 #[.slice (some ⟨blk,0,none⟩) d.size cap, .func (.func 51) #[] #[]] w fun e w'=>e= .returned (.tuple #[])∧∃d' n os,PermIn 0 d.size d d'∧SortedIn (ltOf cfE) 0 d.size d'∧w'=sortWorldK Jr 2 w blk 0 n d' os:=
 AnyQ.slices_SortFunc Zh 2 Tryz.isAgg58 Tryz.sizeOf58 Jr (fun _=>rfl) (fun x v hv=>by simp[Jr] at hv;rcases hv with rfl |rfl<;>rfl) cfE ap0 51 #[] blk 0 cap d w ajr (aeq blk 0 d.size w) hH hblk hsz
theorem Zj (cap:Nat)(p:Option Addr)(fv:Value)(w:World):Calls Tryz.prog 50 #[.slice p 0 cap,fv] w fun e w'=>e= .returned (.tuple #[])∧w'=w:=AnyF.slices_SortFunc_none Zh p cap fv w
end Go.Proofs.YtofjebmoebhiiaaGreatDoor.Ev
