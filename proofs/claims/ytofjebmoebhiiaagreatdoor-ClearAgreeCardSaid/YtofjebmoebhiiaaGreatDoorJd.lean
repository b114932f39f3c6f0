/- YtofjebmoebhiiaaGreatDoorJd: a part of the proof (Tab, Defs, Eqchain ..). No condition. -/
import Derived.Test.YtofjebmoebhiiaaGreatDoorJc
import Derived.KernelRfl
import Derived.Test.YtofjebmoebhiiaaGreatDoorProg
import Derived.Test.YtofjebmoebhiiaaGreatDoorTie
import Derived.Test.YtofjebmoebhiiaaGreatDoorCards
import Derived.WalkKit
import Derived.ProofKit
import Derived.OpenShut
import Derived.ShutString
import Derived.ChangeOld
import Derived.Below
import Derived.SizedLaws
import Derived.LaidMore
import Derived.Stop.Joined
import Derived.Shelf.SlLaysF0
import Derived.Shelf.SlSortCmp.NoneTotal
import Derived.Lib.Bytealg
import Derived.Laws.StandIn
import Derived.IntWalk
import Derived.Laws.Bits64
set_option linter.unusedVariables false
set_option linter.unusedSimpArgs false
set_option maxRecDepth 100000
set_option exponentiation.threshold 2000
namespace Go.Proofs.YtofjebmoebhiiaaGreatDoor.Ev
open Go.Abs
abbrev ff:Bool:=false
abbrev zI:Ty:= .int .i64
abbrev zu:Ty:= .slice (.int .u32)
abbrev zV:Ty:= .slice zI
abbrev zT:Ty:= .pair zI (.pair zI .unit)
abbrev zt:Ty:= .st zT
abbrev zS:Ty:= .slice zt
abbrev zC:Ty:= .pair zI (.pair .str (.pair zS .unit))
abbrev zc:Ty:= .st zC
abbrev zR:Ty:= .pair zI (.pair .str (.pair (.ref 2) .unit))
abbrev zH:Ty:= .st (.pair zI (.pair (.slice zc) .unit))
abbrev zW:Ty:= .st (.pair (.slice zV) (.pair zV (.pair zI (.pair zV .unit))))
abbrev zB:List (Ty×Option Nat):=[(.bool,none)]
abbrev zX:List (Ty×Option Nat):=[(zI,none)]
abbrev zY:List (Ty×Option Nat):=[(zS,none)]
abbrev zZ:List (Ty×Option Nat):=[(.str,none)]
abbrev p2:List (Nat×Nat):=[(0,1),(1,1)]
abbrev p3:List (Nat×Nat):=[(0,1),(1,1),(2,1)]
def tr (a:TypeId)(b:Ty)(c:Nat)(d:TypeId)(e:List (Nat×Nat)):gZ:=⟨a,b,c,d,e,false⟩
def tys:List gZ:=[
 tr 2 zI 8 0 [],
 tr 3 zI 8 0 [],
 tr 4 .bool 1 0 [],
 tr 5 (.int .u8) 1 0 [],
 tr 6 (.int .u8) 1 0 [],
 tr 7 (.st (.pair zI (.pair zI (.pair .bool (.pair (.int .u8) .unit))))) 24 0 [(0,1),(1,1),(2,1),(3,1)],
 tr 8 (.st (.pair zI (.pair zI (.pair .bool (.pair (.int .u8) .unit))))) 24 0 [(0,1),(1,1),(2,1),(3,1)],
 tr 9 .str 16 0 [],
 tr 10 .str 16 0 [],
 tr 11 .str 16 0 [],
 tr 12 (.int .u64) 8 0 [],
 tr 13 (.st (.pair .str (.pair (.int .u64) .unit))) 24 0 p2,
 tr 14 (.st (.pair .str (.pair (.int .u64) .unit))) 24 0 p2,
 tr 21 (.int .i32) 4 0 [],
 tr 22 (.slice zc) 24 42 [],
 tr 23 (.st (.pair zI (.pair (.ref 0) .unit))) 32 0 p2,
 tr 24 (.st (.pair zI (.pair (.ref 0) .unit))) 32 0 p2,
 tr 25 (.slice zV) 24 26 [],
 tr 26 zV 24 3 [],
 tr 27 zW 80 0 [(0,1),(1,1),(2,1),(3,1)],
 tr 28 zW 80 0 [(0,1),(1,1),(2,1),(3,1)],
 tr 32 (.slice (.st (.pair zI (.pair (.ref 0) .unit)))) 24 24 [],
 tr 34 zI 8 0 [],
 tr 39 .str 16 0 [],
 tr 40 zS 24 44 [],
 tr 41 zc 48 0 p3,
 tr 42 zc 48 0 p3,
 tr 43 zt 16 0 p2,
 tr 44 zt 16 0 p2,
 tr 46 zS 24 58 [],
 tr 47 zt 16 0 p2,
 tr 48 zt 16 0 p2,
 tr 57 zt 16 0 p2,
 tr 58 zt 16 0 p2,
 tr 62 (.slice (.st (.pair zV (.pair .str .unit)))) 24 101 [],
 tr 63 (.slice (.st (.pair zV (.pair .str .unit)))) 24 101 [],
 tr 73 zu 24 168 [],
 tr 74 (.st (.pair .bool (.pair zu .unit))) 32 0 p2,
 tr 75 (.st (.pair .bool (.pair zu .unit))) 32 0 p2,
 tr 76 (.st (.pair (.st (.pair .bool (.pair zu .unit))) (.pair (.st (.pair .bool (.pair zu .unit))) .unit))) 64 0 [(0,2),(2,2)],
 tr 77 (.st (.pair (.st (.pair .bool (.pair zu .unit))) (.pair (.st (.pair .bool (.pair zu .unit))) .unit))) 64 0 [(0,2),(2,2)],
 tr 85 (.st (.pair .fn (.pair .bool .unit))) 16 0 p2,
 tr 86 (.st (.pair .fn (.pair .bool .unit))) 16 0 p2,
 tr 89 (.ptr 5) 8 0 [],
 tr 93 (.slice .bool) 24 4 [],
 tr 94 (.st (.pair zH (.pair (.ref 6) (.pair (.ref 4) (.pair (.ref 7) zT))))) 120 0 [(0,2),(2,1),(3,1),(4,1),(5,1),(6,1)],
 tr 95 (.st (.pair zH (.pair (.ref 6) (.pair (.ref 4) (.pair (.ref 7) zT))))) 120 0 [(0,2),(2,1),(3,1),(4,1),(5,1),(6,1)],
 tr 99 zV 24 3 [],
 tr 100 (.st (.pair zV (.pair .str .unit))) 40 0 p2,
 tr 101 (.st (.pair zV (.pair .str .unit))) 40 0 p2,
 tr 104 (.slice zV) 24 99 [],
 tr 106 (.slice .str) 24 39 [],
 tr 118 .str 16 0 [],
 tr 136 (.slice zS) 24 40 [],
 tr 149 (.int .u64) 8 0 [],
 tr 168 (.int .u32) 4 0 [],
 tr 169 (.slice (.int .u8)) 24 5 [],
 tr 171 (.int .u64) 8 0 [],
 tr 177 zI 8 0 [],
 tr 183 zI 8 0 [],
 ⟨208,zt,16,0,p2,true⟩,
 tr 209 (.int .u64) 8 0 [],
 tr 234 (.int .u8) 1 0 [],
 tr 235 (.int .u8) 1 0 [],
 tr 238 (.int .i32) 4 0 [],
 tr 239 (.int .i32) 4 0 []]++[1,29,30,31,33,35,37,38,45,50,51,53,54,55,56,59,60,61,64,65,66,67,68,69,70,71,72,79,80,81,83,84,87,88,90,91,92,97,98,102,103,105,107,109,110,111,112,113,114,115,116,117,120,121,122,123,124,125,127,129,130,131,132,133,134,135,137,138,139,141,143,145,146,147,148,150,151,152,153,154,155,156,157,158,159,160,161,163,164,165,167,170,172,173,175,176,179,180,181,182,185,186,187,188,189,190,191,193,194,195,196,197,198,199,200,201,202,204,205,206,207,210,211,212,214,216,217,218,219,220,221,224,225,227,228,236].map fun i=>tr i .fn 8 0 []
def af:List HT:=[⟨42,zc,0⟩,⟨42,(.st zR),0⟩,⟨44,zt,0⟩,⟨58,zt,0⟩,⟨3,zI,0⟩,⟨95,(.st (.pair zH (.pair (.ref 6) (.pair (.ref 4) (.pair (.ref 7) zT))))),1⟩,⟨26,(.qG zI),0⟩,⟨4, .bool,0⟩,⟨101,(.st (.pair (.ref 4) (.pair .str .unit))),0⟩,⟨24,zH,0⟩,⟨26,(.ref 4),0⟩]
def aqZ:List (Nat×Nat):=[(100045,45),(100145,45),(100046,46),(100146,46),(100084,84),(102038,38),(100040,40),(100070,70),(100071,70),(100109,109),(100110,109)]
def real (v:Nat):Nat:=bif Nat.blt v 100000 then v else (Go.Abs.look aqZ v).getD 0
def sg (a:List ph)(b:List NP):JZ:=⟨a,b,none,[],none⟩
def sigs:List (Nat×JZ):=[
 (11,sg [.v zW] zB),
 (13,sg [] zB),
 (14,sg [.v zW, .v zI] [(zH,none)]),
 (15,⟨[.v zH],[((.st (.pair zI (.pair (.ref 0) .unit))),none)],none,[(0,true)],none⟩),
 (18,sg [.v zH] [(zH,none),(zI,none)]),
 (20,sg [.v zH] [(zS,none),(zt,none),(zI,none)]),
 (23,sg [.v zS, .v zS] zB),
 (24,sg [.v zH] [(zS,none),(zt,none),(zI,none)]),
 (26,sg [.v zH] [(zS,none),(zt,none),(zI,none)]),
 (28,sg [] [(zH,none)]),
 (29,sg [.v zH] zY),
 (30,sg [.v zS, .v zS] zB),
 (31,sg [.v zV] [(zS,some 44)]),
 (32,sg [.v (.slice zV), .v zV, .v zI, .v zI, .v zI] [((.slice (.st (.pair zV (.pair .str .unit)))),none)]),
 (33,sg [.v (.slice (.st (.pair zV (.pair .str .unit)))), .v zI] [(zH,none),(zI,none)]),
 (34,sg [.v zI] zX),
 (35,sg [.v zH, .v zI, .v zI, .v zI, .v zI] [(zH,none)]),
 (36,sg [.v zI] zB),
 (38,sg [.v zS, .v zI] [(zV,none)]),
 (40,sg [.v zV] zY),
 (41,sg [.v zH] zX),
 (42,sg [.v .str] [((.st (.pair (.st (.pair .bool (.pair zu .unit))) (.pair (.st (.pair .bool (.pair zu .unit))) .unit))),none),(.bool,none)]),
 (43,sg [.v (.st (.pair (.st (.pair .bool (.pair zu .unit))) (.pair (.st (.pair .bool (.pair zu .unit))) .unit)))] [((.st (.pair (.st (.pair .bool (.pair zu .unit))) (.pair (.st (.pair .bool (.pair zu .unit))) .unit))),none)]),
 (44,sg [.v (.st (.pair (.st (.pair .bool (.pair zu .unit))) (.pair (.st (.pair .bool (.pair zu .unit))) .unit)))] zZ),
 (50,⟨[.v (.ref 3), .fn 51 []],[],none,[(3,true)],none⟩),
 (51,sg [.v zt, .v zt] zX),
 (52,sg [.v zH, .v zI, .v zI] zX),
 (53,sg [.v (.slice zV)] [((.slice zV),none)]),
 (54,sg [.v (.slice zV), .v zI, .v zI, .v zI] [((.slice zV),none)]),
 (55,sg [.v zI] zZ),
 (56,sg [.v (.slice zV), .v (.slice .str)] [((.slice (.st (.pair zV (.pair .str .unit)))),none),(zI,none)]),
 (57,sg [.v (.slice (.st (.pair zV (.pair .str .unit))))] zX),
 (58,sg [.v zV] [((.slice zV),none)]),
 (59,sg [.v zV, .v zV] zX),
 (60,sg [.v zI, .v zI] zX),
 (61,sg [.v .str] zB),
 (64,sg [.v .str, .v .str] zX),
 (65,sg [.v .str] [(.str,none),(.str,none),(.bool,none)]),
 (66,sg [.v .str] zZ),
 (67,sg [.v zI] zB),
 (68,sg [.v .str] zB),
 (69,sg [.v zI, .v zS] zX),
 (71,sg [.v zt, .rp zI] zB),
 (72,sg [.v zt, .rp zH, .rp zc] zB),
 (73,sg [.v zH, .v zS] zY),
 (74,sg [.v (.st (.pair (.st (.pair .bool (.pair zu .unit))) (.pair (.st (.pair .bool (.pair zu .unit))) .unit))), .v (.st (.pair (.st (.pair .bool (.pair zu .unit))) (.pair (.st (.pair .bool (.pair zu .unit))) .unit)))] zX),
 (75,sg [.v .str, .v .str] [(.str,none),(.str,none),(.bool,none)]),
 (76,sg [.v .str] [((.st (.pair .bool (.pair zu .unit))),none),(.bool,none)]),
 (77,sg [.v zI] [((.st (.pair .bool (.pair zu .unit))),none)]),
 (78,sg [.v (.st (.pair .bool (.pair zu .unit)))] zX),
 (79,sg [.v (.st (.pair .bool (.pair zu .unit))), .v (.st (.pair .bool (.pair zu .unit)))] zX),
 (80,sg [.v (.st (.pair .bool (.pair zu .unit))), .v (.st (.pair .bool (.pair zu .unit)))] [((.st (.pair .bool (.pair zu .unit))),none)]),
 (81,sg [.v (.st (.pair .bool (.pair zu .unit)))] [((.st (.pair .bool (.pair zu .unit))),none)]),
 (82,sg [.v (.st (.pair (.st (.pair .bool (.pair zu .unit))) (.pair (.st (.pair .bool (.pair zu .unit))) .unit)))] [((.st (.pair .bool (.pair zu .unit))),none)]),
 (83,sg [.v (.st (.pair .bool (.pair zu .unit)))] zZ),
 (84,sg [.v zS] zY),
 (85,sg [.v zS] [(zI,none),(.bool,none)]),
 (86,sg [.v zI, .v zI] [(zI,none),(zI,none)]),
 (87,sg [.v zI, .v zS, .v zI, .v zS] [(zS,none),(zI,none)]),
 (88,sg [.v zI, .v zI] zX),
 (92,sg [.v zI, .v (.slice zV)] zX),
 (93,sg [.v zV, .v zI, .v zI] [(zV,none)]),
 (94,sg [.v (.slice zV)] [((.slice zV),none)]),
 (95,sg [.v zI, .v zI] zZ),
 (96,sg [.v (.slice zV)] zX),
 (97,sg [.v zV, .v zV] zB),
 (98,sg [.v (.slice (.st (.pair zV (.pair .str .unit))))] [((.slice (.st (.pair zV (.pair .str .unit)))),none)]),
 (99,sg [.v (.slice (.st (.pair zV (.pair .str .unit)))), .v zI] zX),
 (100,sg [.v (.slice (.st (.pair zV (.pair .str .unit)))), .v zI, .v zV] zX),
 (101,sg [.v zV, .v zI] [(zV,none)]),
 (102,sg [.v .str] zB),
 (103,sg [.v .str] zB),
 (104,sg [.v .str, .v .str] zX),
 (105,sg [.v .str, .v .str] zZ),
 (106,sg [.v .str] [(.bool,none),(zV,none)]),
 (107,sg [.v .bool, .v zV] zZ),
 (108,sg [.v .str] [((.st (.pair (.st (.pair .bool (.pair zu .unit))) (.pair (.st (.pair .bool (.pair zu .unit))) .unit))),none),(.bool,none)]),
 (110,sg [.v (.st (.pair .bool (.pair zu .unit))), .v (.st (.pair .bool (.pair zu .unit)))] [((.st (.pair .bool (.pair zu .unit))),none)]),
 (111,sg [.v .str, .v .str] [(.str,none),(.str,none),(.bool,none)]),
 (112,sg [.v .str, .v .str] [(.str,none),(.bool,none)]),
 (113,sg [.v .bool, .v zu] [((.st (.pair .bool (.pair zu .unit))),none)]),
 (114,sg [.v zu, .v zu] zX),
 (115,sg [.v zI, .v zI] zX),
 (116,sg [.v zu] zX),
 (117,sg [.v zu, .v zu] [(zu,none),(zu,none)]),
 (118,sg [.v zu] [(zu,none)]),
 (119,sg [.v zI] [(zI,none),(zI,none)]),
 (120,sg [.v zI, .v zI] zX),
 (121,sg [.v zI, .v zI] zX),
 (122,sg [.v zI, .v (.slice zS)] zX),
 (123,sg [.v zI, .v zS, .v zI, .v zS] zY),
 (134,sg [.v zV, .v zI] zB),
 (135,sg [.v zV] [(zV,none),(zI,none)]),
 (136,sg [.v zV] [((.slice zV),none)]),
 (137,sg [.v (.slice zV), .v zV] [((.slice zV),none)]),
 (138,sg [.v .str, .v .str] zZ),
 (139,sg [.v zI] zZ),
 (140,sg [.v zV] zX),
 (141,sg [.v (.slice zV), .v zV] zX),
 (142,⟨[.v (.slice (.st (.pair zV (.pair .str .unit))))],[((.ref 8),none)],none,[(8,true),(4,true)],none⟩),
 (143,sg [.v .str] zB),
 (144,sg [.v .str] zB),
 (145,sg [.v .str, .v .str] zZ),
 (146,sg [.v zV, .v zV] zX),
 (147,sg [.v .str] [(zI,none),(.bool,none)]),
 (148,sg [.v zV] [(zV,none)]),
 (149,sg [.v (.st (.pair (.st (.pair .bool (.pair zu .unit))) (.pair (.st (.pair .bool (.pair zu .unit))) .unit)))] zB),
 (150,sg [.v .str, .v .str] zX),
 (151,sg [.v .str, .v .str] [(.str,none),(.bool,none)]),
 (152,sg [.v zu, .v (.int .u32)] [(zu,none),((.int .u32),none)]),
 (153,sg [.v zu, .v zu] [(zu,none),(zu,none)]),
 (154,sg [.v zI, .v zI, .v zI] zX),
 (155,⟨[.v zS, .v zS],[],some (171,[zS,zS]),[],none⟩),
 (161,sg [.v .str, .v .str] [(.str,none),(.str,none)]),
 (162,sg [.v .str] zX),
 (163,sg [.v .str] zZ),
 (164,sg [.v (.st (.pair .bool (.pair zu .unit)))] zB),
 (165,sg [.v .str, .v (.int .u8)] zX),
 (169,sg [.v .str, .v .str] zB),
 (170,sg [.v zu, .v (.int .u32)] [(zu,some 168)]),
 (171,⟨[.Na, .bx zS, .bx zS],[],none,[],some [zI,zt]⟩),
 (173,sg [.v zV, .v zV] [(zV,none)]),
 (174,sg [.v .str, .v .str] zZ),
 (175,sg [.v .str, .v .str] zZ),
 (176,sg [.v (.st (.pair .bool (.pair zu .unit)))] zX),
 (179,sg [.v zV, .v zV] [(zV,none)]),
 (196,⟨[.v zH],[],some (197,[zH]),[],none⟩),
 (197,⟨[.Na, .bx zH],[],none,[],some [zI]⟩),
 (198,⟨[.v zH],[],some (199,[zH]),[],none⟩),
 (199,⟨[.Na, .bx zH],[],none,[],some [zI]⟩),
 (100045,⟨[.v zH, .c [⟨.fn,(197:Nat)⟩,⟨.bool,false⟩], .fn 46 []],[((.ref 3),none),(zt,none),(zI,none)],none,[(3,true)],none⟩),
 (100145,⟨[.v zH, .c [⟨.fn,(199:Nat)⟩,⟨.bool,true⟩], .fn 46 []],[((.ref 3),none),(zt,none),(zI,none)],none,[(3,true)],none⟩),
 (100046,⟨[.c [⟨.fn,(197:Nat)⟩,⟨.bool,false⟩], .v zH],[((.ref 3),none),(zt,none)],none,[(3,true)],none⟩),
 (100146,⟨[.c [⟨.fn,(199:Nat)⟩,⟨.bool,true⟩], .v zH],[((.ref 3),none),(zt,none)],none,[(3,true)],none⟩),
 (100084,sg [.v (.qG zt)] zY),
 (102038,⟨[.v zS, .v zI],[((.ref 4),none)],none,[(4,true)],none⟩),
 (100040,⟨[.v (.ref 4)],zY,none,[(4,ff)],none⟩),
 (100070,sg [.v zS, .fn 71 [zI]] zB),
 (100071,sg [.v zS, .fn 72 [zH,zc]] zB),
 (100109,sg [.v zS, .fn 71 [zI]] zX),
 (100110,sg [.v zS, .fn 72 [zH,zc]] zX)]
def sig (v:Nat):JZ:=(Go.Abs.look sigs v).getD ⟨[],[],none,[],none⟩
def aq0:List (Nat×List Nat):=[(45,[100045,100145]),(46,[100046,100146]),(70,[100070,100071]),(109,[100109,100110])]
def alF (f:Nat):List Nat:=(Go.Abs.look aq0 f).getD [f]
def hn (l:List Nat):List (Nat×Bool):=l.map fun i=>(i,false)
def hints:List (Nat×List (List (Nat×Bool))):=[
 (14,[hn [2,4,7,9],hn [2,4,7,9,10,11,12]]),
 (15,[hn [1,2,3,4]]),
 (18,[hn [1,2,5,6,34,35],hn [1,2,5,6,11],hn [1,2,5,6,11,78,79,80]]),
 (23,[hn [0,1,5]]),
 (26,[hn [3,7,8,9,31,32,33]]),
 (29,[hn [1,3,4,5],hn [1,3,4,5,6],hn [3,4,7,8,9],hn [3,4,7,8,9,10],hn [3,7,8,11,12]]),
 (30,[hn [0,1,5]]),
 (31,[hn [0,3,4]]),
 (32,[hn [1,11,12,13]]),
 (33,[hn [0,1,4,7,8],hn [0,1,4,7,8,9,10,11],hn [0,1,4,7,8,9,10,11,12]]),
 (35,[hn [1,2,3,4,5,10,11,12,13,14,15,16],hn [1,2,4,5,10,11,12,17]]),
 (36,[hn [0,3]]),
 (38,[hn [0,5,6]]),
 (40,[hn [0,3,4]]),
 (41,[hn [1,3,18,19,20]]),
 (52,[hn [1,2,3,7,8]]),
 (53,[hn [0,3,4]]),
 (54,[hn [0,1,2,3,9,10],hn [11,37,38,39]]),
 (56,[hn [0,1,7],hn [0,1,8,9],hn [0,1,8,9,10,11]]),
 (57,[hn [0,3],hn [0,3,5,6]]),
 (58,[hn [0,3,4]]),
 (59,[hn [0,1,5]]),
 (60,[hn [0,1,5]]),
 (65,[hn [0,5]]),
 (67,[hn [0,4]]),
 (69,[hn [0,1,10,11,12]]),
 (73,[hn [2,4,7,8,9]]),
 (76,[hn [2,4,5,6,7],hn [2,4,5,6,7,8,44,45,46]]),
 (77,[hn [2,3,4,5]]),
 (80,[hn [4,5,6]]),
 (83,[hn [1,3,19,20,21],hn [1,3,5,19,20,21,25],hn [1,3],hn [3,6,7]]),
 (92,[hn [0,1,5,6],hn [0,5,7,8],hn [0,5,7,8,9],hn [0,5,7,8,10,11],hn [0,5,7,8,10,11,12,13]]),
 (93,[hn [0,1,2,7,8]]),
 (94,[hn [0,3,4],hn [0,3,4,5,6]]),
 (96,[hn [0,3],hn [0,3,5,6]]),
 (97,[hn [0,1,5]]),
 (98,[hn [3,4],hn [3,4,5]]),
 (100,[hn [0,1,2,7]]),
 (101,[hn [0,1,5,6]]),
 (105,[hn [9,10,11,12,13,14],hn [9,10,11,12,13,14,15],hn [9,11,13,16]]),
 (106,[hn [0,4,5,6]]),
 (107,[hn [1,5,6]]),
 (110,[hn [2,3,4,5,20,21,22],hn [2,3,4,5,6,7,8,20,21,22,28,29,30]]),
 (114,[hn [0,1,5]]),
 (115,[hn [0,1]]),
 (116,[hn [0,3,4]]),
 (118,[hn [0]]),
 (122,[hn [0,8,9,10]]),
 (123,[hn [4,6,9]]),
 (134,[hn [0,1,5]]),
 (135,[hn [4,5,6],hn [4,5,6,7]]),
 (136,[hn [0,3,4],hn [0,3,4,5,6]]),
 (137,[hn [0,1,5,6,7]]),
 (139,[hn [3,5],hn [0,6]]),
 (140,[hn [0,3],hn [0,4]]),
 (141,[hn [0,1,5]]),
 (142,[hn [0,3,4]]),
 (144,[hn [3,4]]),
 (145,[hn [5,6]]),
 (146,[hn [0,1,5]]),
 (147,[hn [0,4,5]]),
 (148,[hn [0]]),
 (150,[hn [0,1,5,6,7,8,9,10]]),
 (152,[hn [0,1,6,7,8]]),
 (153,[hn [4,6,7,8,9,10],hn [4,6,7,8,9,10,12,13],hn [4,6,7,8,9,10,12,14,123,124],hn [4,6,7,8,9,10,12,17,18,188,189]]),
 (154,[hn [0,2,7,8]]),
 (161,[hn [1,12,13,14,15,17,18,19],hn [1,12,13,14,15,17,18,19,20],hn [1,12,14,17,18,21]]),
 (170,[hn [1,5,6,13,14,15]]),
 (171,[hn [0,1,2]]),
 (173,[hn [0,1,5,6,7]]),
 (176,[hn [3,4]]),
 (179,[hn [0,1,5,6,7]]),
 (197,[hn [0,6,7]]),
 (199,[hn [0,1,3],hn [0,1,3,11,12,13]]),
 (100046,[hn [2,3,4,5,7,8,27,28],hn [2,3,4,5,7,8],hn [3,5,7,8,10,11,12,13],hn [4,5,137,138,139]]),
 (100146,[hn [2,3,4,5,7,8,27,28],hn [2,3,4,5,7,8],hn [3,5,7,8,10,11,12,13],hn [4,5,137,138,139]]),
 (102038,[hn [0,5,6]]),
 (100040,[hn [0,3,4]]),
 (100109,[hn [0,1,7,8]]),
 (100110,[hn [0,1,7,8]])]
def hint (v:Nat):List (List (Nat×Bool)):=(Go.Abs.look hints v).getD []
def aoS:List (Nat×List (Nat×Site)):=[(18,[(30, .heap 1)]),(29,[(18, .heap 10),(28, .heap 4)]),(33,[(32, .heap 4),(87, .vid 100040)]),(35,[(28, .heap 4),(78, .vid 100040),(99, .vid 102038),(145, .vid 100040)]),(92,[(5, .heap 10),(21, .heap 4),(27, .heap 10)]),(142,[(2, .heap 8),(3, .heap 8),(12, .heap 4),(25, .heap 8)]),(100045,[(6, .heap 3)]),(100145,[(6, .heap 3)]),(100046,[(4, .heap 3),(23, .qG)]),(100146,[(4, .heap 3),(23, .qG)]),(102038,[(4, .heap 4),(8, .heap 4)])]
def sites (v:Nat):List (Nat×Site):=(Go.Abs.look aoS v).getD []
def T:dc:=⟨tys,af,real,sig,alF,hint,sites,[(1000000000, .qA [⟨.fn,(197:Nat)⟩,⟨.bool,false⟩]),(1000000001, .qA [⟨.fn,(199:Nat)⟩,⟨.bool,true⟩])],[48,58,44]⟩
noncomputable def fns:List (Nat×Func):=[(11,Tryz.f11),(13,Tryz.f13),(14,Tryz.f14),(15,Tryz.f15),(18,Tryz.f18),(20,Tryz.f20),(23,Tryz.f23),(24,Tryz.f24),(26,Tryz.f26),(28,Tryz.f28),(29,Tryz.f29),(30,Tryz.f30),(31,Tryz.f31),(32,Tryz.f32),(33,Tryz.f33),(34,Tryz.f34),(35,Tryz.f35),(36,Tryz.f36),(38,Tryz.f38),(40,Tryz.f40),(41,Tryz.f41),(42,Tryz.f42),(43,Tryz.f43),(44,Tryz.f44),(50,Tryz.f50),(51,Tryz.f51),(52,Tryz.f52),(53,Tryz.f53),(54,Tryz.f54),(55,Tryz.f55),(56,Tryz.f56),(57,Tryz.f57),(58,Tryz.f58),(59,Tryz.f59),(60,Tryz.f60),(61,Tryz.f61),(64,Tryz.f64),(65,Tryz.f65),(66,Tryz.f66),(67,Tryz.f67),(68,Tryz.f68),(69,Tryz.f69),(71,Tryz.f71),(72,Tryz.f72),(73,Tryz.f73),(74,Tryz.f74),(75,Tryz.f75),(76,Tryz.f76),(77,Tryz.f77),(78,Tryz.f78),(79,Tryz.f79),(80,Tryz.f80),(81,Tryz.f81),(82,Tryz.f82),(83,Tryz.f83),(84,Tryz.f84),(85,Tryz.f85),(86,Tryz.f86),(87,Tryz.f87),(88,Tryz.f88),(92,Tryz.f92),(93,Tryz.f93),(94,Tryz.f94),(95,Tryz.f95),(96,Tryz.f96),(97,Tryz.f97),(98,Tryz.f98),(99,Tryz.f99),(100,Tryz.f100),(101,Tryz.f101),(102,Tryz.f102),(103,Tryz.f103),(104,Tryz.f104),(105,Tryz.f105),(106,Tryz.f106),(107,Tryz.f107),(108,Tryz.f108),(110,Tryz.f110),(111,Tryz.f111),(112,Tryz.f112),(113,Tryz.f113),(114,Tryz.f114),(115,Tryz.f115),(116,Tryz.f116),(117,Tryz.f117),(118,Tryz.f118),(119,Tryz.f119),(120,Tryz.f120),(121,Tryz.f121),(122,Tryz.f122),(123,Tryz.f123),(134,Tryz.f134),(135,Tryz.f135),(136,Tryz.f136),(137,Tryz.f137),(138,Tryz.f138),(139,Tryz.f139),(140,Tryz.f140),(141,Tryz.f141),(142,Tryz.f142),(143,Tryz.f143),(144,Tryz.f144),(145,Tryz.f145),(146,Tryz.f146),(147,Tryz.f147),(148,Tryz.f148),(149,Tryz.f149),(150,Tryz.f150),(151,Tryz.f151),(152,Tryz.f152),(153,Tryz.f153),(154,Tryz.f154),(155,Tryz.f155),(161,Tryz.f161),(162,Tryz.f162),(163,Tryz.f163),(164,Tryz.f164),(165,Tryz.f165),(169,Tryz.f169),(170,Tryz.f170),(171,Tryz.f171),(173,Tryz.f173),(174,Tryz.f174),(175,Tryz.f175),(176,Tryz.f176),(179,Tryz.f179),(196,Tryz.f196),(197,Tryz.f197),(198,Tryz.f198),(199,Tryz.f199),(100045,Tryz.f45),(100145,Tryz.f45),(100046,Tryz.f46),(100146,Tryz.f46),(100084,Tryz.f84),(102038,Tryz.f38),(100040,Tryz.f40),(100070,Tryz.f70),(100071,Tryz.f70),(100109,Tryz.f109),(100110,Tryz.f109)]
def abB (x:Int×Int×Unit):List (Int×Int×Unit)→List (Int×Int×Unit)
 | []=>[x]
 |y::r=>bif decide (x.1<y.1) then x::y::r else y::abB x r
def um:List (Int×Int×Unit)→List (Int×Int×Unit)
 | []=>[]
 |x::r=>abB x (um r)
def okT:List (Int×Int×Unit)→Bool
 | []=>true
 |x::r=>decide (0≤x.1)&&decide (x.1<1000000000)&&(r.all fun y=> !decide (x.1=y.1))&&okT r
def XW (n:Nat)(hp:List (Option (List (Int×Int×Unit)))):Option (Unit×List (Option (List (Int×Int×Unit)))):=match n with
 |0=>some ((),hp)
 |n+1=>(ag hp (n+1)).bind fun l=>bif Nat.ble l.length 1000000&&okT l then some ((),ef hp (n+1) (um l)) else none
def WJ (c:Int)(i:Nat):List UInt8→Int
 | []=> -1
 |x::r=>bif ((x.toNat:Int)==c) then (i:Int) else WJ c (i+1) r
def B:NV T:=fun v=>match v with
 |50=>some fun(x:(Nat×Unit)×List (Option (List (Int×Int×Unit))))=>XW x.1.1 x.2
 |84=>some fun(x:List (Int×Int×Unit))=>bif aB 16 2 0 x.length then some x else none
 |165=>some fun(x:ByteArray×Int)=>bif decide (0≤x.2)&&decide (x.2<256) then some (WJ x.2 0 x.1.data.toList) else none
 |_=>none
theorem aoT:jO Tryz.prog T.rows:=aoL (by kernel_rfl)
theorem mixed:Tryz.prog.follows .mixedOrders=true:=by kernel_rfl
theorem agU:EU Tryz.prog T:=ajA (by kernel_rfl)
theorem amn:aiB Tryz.prog T:=aoN (by kernel_rfl)
theorem ajI:UG T:=amk (l:=sigs) (by kernel_rfl) fun _=>rfl
theorem afc:N4 Tryz.prog T:=⟨mixed,aoT,agU,amn,ajI⟩
theorem aoU:ae6 Tryz.prog T (Go.Abs.look fns):=Vg (
 ⟨⟨Tryz.func11,by kernel_rfl⟩,⟨Tryz.func13,by kernel_rfl⟩,⟨Tryz.func14,by kernel_rfl⟩,⟨Tryz.func15,by kernel_rfl⟩,⟨Tryz.func18,by kernel_rfl⟩,⟨Tryz.func20,by kernel_rfl⟩,⟨Tryz.func23,by kernel_rfl⟩,⟨Tryz.func24,by kernel_rfl⟩,⟨Tryz.func26,by kernel_rfl⟩,⟨Tryz.func28,by kernel_rfl⟩,⟨Tryz.func29,by kernel_rfl⟩,⟨Tryz.func30,by kernel_rfl⟩,⟨Tryz.func31,by kernel_rfl⟩,⟨Tryz.func32,by kernel_rfl⟩,⟨Tryz.func33,by kernel_rfl⟩,⟨Tryz.func34,by kernel_rfl⟩,⟨Tryz.func35,by kernel_rfl⟩,⟨Tryz.func36,by kernel_rfl⟩,⟨Tryz.func38,by kernel_rfl⟩,⟨Tryz.func40,by kernel_rfl⟩,⟨Tryz.func41,by kernel_rfl⟩,⟨Tryz.func42,by kernel_rfl⟩,⟨Tryz.func43,by kernel_rfl⟩,⟨Tryz.func44,by kernel_rfl⟩,⟨Tryz.func50,by kernel_rfl⟩,⟨Tryz.func51,by kernel_rfl⟩,⟨Tryz.func52,by kernel_rfl⟩,⟨Tryz.func53,by kernel_rfl⟩,⟨Tryz.func54,by kernel_rfl⟩,⟨Tryz.func55,by kernel_rfl⟩,⟨Tryz.func56,by kernel_rfl⟩,⟨Tryz.func57,by kernel_rfl⟩,⟨Tryz.func58,by kernel_rfl⟩,⟨Tryz.func59,by kernel_rfl⟩,⟨Tryz.func60,by kernel_rfl⟩,⟨Tryz.func61,by kernel_rfl⟩,⟨Tryz.func64,by kernel_rfl⟩,⟨Tryz.func65,by kernel_rfl⟩,⟨Tryz.func66,by kernel_rfl⟩,⟨Tryz.func67,by kernel_rfl⟩,⟨Tryz.func68,by kernel_rfl⟩,⟨Tryz.func69,by kernel_rfl⟩,⟨Tryz.func71,by kernel_rfl⟩,⟨Tryz.func72,by kernel_rfl⟩,⟨Tryz.func73,by kernel_rfl⟩,⟨Tryz.func74,by kernel_rfl⟩,⟨Tryz.func75,by kernel_rfl⟩,⟨Tryz.func76,by kernel_rfl⟩,⟨Tryz.func77,by kernel_rfl⟩,⟨Tryz.func78,by kernel_rfl⟩,⟨Tryz.func79,by kernel_rfl⟩,⟨Tryz.func80,by kernel_rfl⟩,⟨Tryz.func81,by kernel_rfl⟩,⟨Tryz.func82,by kernel_rfl⟩,⟨Tryz.func83,by kernel_rfl⟩,⟨Tryz.func84,by kernel_rfl⟩,⟨Tryz.func85,by kernel_rfl⟩,⟨Tryz.func86,by kernel_rfl⟩,⟨Tryz.func87,by kernel_rfl⟩,⟨Tryz.func88,by kernel_rfl⟩,⟨Tryz.func92,by kernel_rfl⟩,⟨Tryz.func93,by kernel_rfl⟩,⟨Tryz.func94,by kernel_rfl⟩,⟨Tryz.func95,by kernel_rfl⟩,⟨Tryz.func96,by kernel_rfl⟩,⟨Tryz.func97,by kernel_rfl⟩,⟨Tryz.func98,by kernel_rfl⟩,⟨Tryz.func99,by kernel_rfl⟩,⟨Tryz.func100,by kernel_rfl⟩,⟨Tryz.func101,by kernel_rfl⟩,⟨Tryz.func102,by kernel_rfl⟩,⟨Tryz.func103,by kernel_rfl⟩,⟨Tryz.func104,by kernel_rfl⟩,⟨Tryz.func105,by kernel_rfl⟩,⟨Tryz.func106,by kernel_rfl⟩,⟨Tryz.func107,by kernel_rfl⟩,⟨Tryz.func108,by kernel_rfl⟩,⟨Tryz.func110,by kernel_rfl⟩,⟨Tryz.func111,by kernel_rfl⟩,⟨Tryz.func112,by kernel_rfl⟩,⟨Tryz.func113,by kernel_rfl⟩,⟨Tryz.func114,by kernel_rfl⟩,⟨Tryz.func115,by kernel_rfl⟩,⟨Tryz.func116,by kernel_rfl⟩,⟨Tryz.func117,by kernel_rfl⟩,⟨Tryz.func118,by kernel_rfl⟩,⟨Tryz.func119,by kernel_rfl⟩,⟨Tryz.func120,by kernel_rfl⟩,⟨Tryz.func121,by kernel_rfl⟩,⟨Tryz.func122,by kernel_rfl⟩,⟨Tryz.func123,by kernel_rfl⟩,⟨Tryz.func134,by kernel_rfl⟩,⟨Tryz.func135,by kernel_rfl⟩,⟨Tryz.func136,by kernel_rfl⟩,⟨Tryz.func137,by kernel_rfl⟩,⟨Tryz.func138,by kernel_rfl⟩,⟨Tryz.func139,by kernel_rfl⟩,⟨Tryz.func140,by kernel_rfl⟩,⟨Tryz.func141,by kernel_rfl⟩,⟨Tryz.func142,by kernel_rfl⟩,⟨Tryz.func143,by kernel_rfl⟩,⟨Tryz.func144,by kernel_rfl⟩,⟨Tryz.func145,by kernel_rfl⟩,⟨Tryz.func146,by kernel_rfl⟩,⟨Tryz.func147,by kernel_rfl⟩,⟨Tryz.func148,by kernel_rfl⟩,⟨Tryz.func149,by kernel_rfl⟩,⟨Tryz.func150,by kernel_rfl⟩,⟨Tryz.func151,by kernel_rfl⟩,⟨Tryz.func152,by kernel_rfl⟩,⟨Tryz.func153,by kernel_rfl⟩,⟨Tryz.func154,by kernel_rfl⟩,⟨Tryz.func155,by kernel_rfl⟩,⟨Tryz.func161,by kernel_rfl⟩,⟨Tryz.func162,by kernel_rfl⟩,⟨Tryz.func163,by kernel_rfl⟩,⟨Tryz.func164,by kernel_rfl⟩,⟨Tryz.func165,by kernel_rfl⟩,⟨Tryz.func169,by kernel_rfl⟩,⟨Tryz.func170,by kernel_rfl⟩,⟨Tryz.func171,by kernel_rfl⟩,⟨Tryz.func173,by kernel_rfl⟩,⟨Tryz.func174,by kernel_rfl⟩,⟨Tryz.func175,by kernel_rfl⟩,⟨Tryz.func176,by kernel_rfl⟩,⟨Tryz.func179,by kernel_rfl⟩,⟨Tryz.func196,by kernel_rfl⟩,⟨Tryz.func197,by kernel_rfl⟩,⟨Tryz.func198,by kernel_rfl⟩,⟨Tryz.func199,by kernel_rfl⟩,⟨Tryz.func45,by kernel_rfl⟩,⟨Tryz.func45,by kernel_rfl⟩,⟨Tryz.func46,by kernel_rfl⟩,⟨Tryz.func46,by kernel_rfl⟩,⟨Tryz.func84,by kernel_rfl⟩,⟨Tryz.func38,by kernel_rfl⟩,⟨Tryz.func40,by kernel_rfl⟩,⟨Tryz.func70,by kernel_rfl⟩,⟨Tryz.func70,by kernel_rfl⟩,⟨Tryz.func109,by kernel_rfl⟩,⟨Tryz.func109,by kernel_rfl⟩,trivial⟩)
noncomputable section
abbrev Pg:=Int×Int×Unit
abbrev kn:=List Pg
abbrev zqC:=Int×ByteArray×kn×Unit
abbrev J0:=List zqC
abbrev zqN:=Int×ByteArray×Nat×Unit
abbrev Db:=Int×J0×Unit
noncomputable abbrev lf:Nat→Option Func:=Go.Abs.look fns
abbrev yT:Ty:= .pair (.int .i64) (.pair (.int .i64) .unit)
abbrev yC:Ty:= .pair (.int .i64) (.pair .str (.pair (.slice (.st yT)) .unit))
abbrev yR:Ty:= .pair (.int .i64) (.pair .str (.pair (.ref 2) .unit))
abbrev yH:Ty:= .st (.pair (.int .i64) (.pair (.slice (.st yC)) .unit))
abbrev yG:Ty:= .st (.pair (.int .i64) (.pair (.ref 0) .unit))
abbrev H0:=List (Option (List zqC))
abbrev H1:=List (Option (List zqN))
abbrev H2:=List (Option (List Pg))
abbrev H3:=List (Option (List Pg))
abbrev H4:=List (Option (List Int))
abbrev H5:=List (Option (List ((Db)×Nat×Nat×Nat×Int×Int×Unit)))
abbrev H6:=List (Option (List (Option (List Int))))
abbrev H7:=List (Option (List Bool))
abbrev H8:=List (Option (List (Nat×ByteArray×Unit)))
abbrev H9:=List (Option (List Db))
abbrev Wo:=List (Option (List Nat))
abbrev hs (a0:H0)(a1:H1)(a2:H2)(a3:H3)(a4:H4)(a5:H5)(a6:H6)(a7:H7)(a8:H8)(a9:H9)(a10:Wo):List aQ:=[⟨42, .st yC,0,true,a0⟩,⟨42, .st yR,0,true,a1⟩,⟨44, .st yT,0,true,a2⟩,⟨58, .st yT,0,true,a3⟩,⟨3, .int .i64,0,true,a4⟩,⟨95, .st (.pair (.st (.pair (.int .i64) (.pair (.slice (.st yC)) .unit))) (.pair (.ref 6) (.pair (.ref 4) (.pair (.ref 7) yT)))),1,true,a5⟩,⟨26, .qG (.int .i64),0,true,a6⟩,⟨4, .bool,0,true,a7⟩,⟨101, .st (.pair (.ref 4) (.pair .str .unit)),0,true,a8⟩,⟨24,yH,0,true,a9⟩,⟨26, .ref 4,0,true,a10⟩]
abbrev h0:List aQ:=hs [] [] [] [] [] [] [] [] [] [] []
abbrev gl:List (Nat×AV):=[(1000000000, .qA [⟨.fn,(197:Nat)⟩,⟨.bool,false⟩]),(1000000001, .qA [⟨.fn,(199:Nat)⟩,⟨.bool,true⟩])]
abbrev aL (x:Int):AV:= .rv (.cv ⟨.int .i64,x⟩)
abbrev zU:Ty:= .slice (.int .u32)
abbrev zO:Ty:= .slice (.st yT)
abbrev zP:Ty:= .slice (.st yC)
abbrev rc (t:Ty)(x:t.den):AV:= .rv (.cv ⟨t,x⟩)
abbrev ro (n:Nat):AV:= .rv (.own n)
abbrev bx (k:Nat):Nat×AV:=(k, .box k 0)
abbrev ce:=BX.cells
abbrev ch (k:Nat)(c:Int)(d:J0):Nat×BX:=(k,ce [⟨zI,c⟩,⟨zP,d⟩])
abbrev cr (k:Nat)(c:Int)(h d:Nat):Nat×BX:=(k,ce [⟨zI,c⟩,⟨.ref h,d⟩])
abbrev s0 (x:H0):List aQ:=hs x [] [] [] [] [] [] [] [] [] []
abbrev s1 (x:H1):List aQ:=hs [] x [] [] [] [] [] [] [] [] []
abbrev s2 (x:H2):List aQ:=hs [] [] x [] [] [] [] [] [] [] []
abbrev s3 (x:H3):List aQ:=hs [] [] [] x [] [] [] [] [] [] []
abbrev s4 (x:H4):List aQ:=hs [] [] [] [] x [] [] [] [] [] []
abbrev s5 (x:H5):List aQ:=hs [] [] [] [] [] x [] [] [] [] []
abbrev s6 (x:H6):List aQ:=hs [] [] [] [] [] [] x [] [] [] []
abbrev s7 (x:H7):List aQ:=hs [] [] [] [] [] [] [] x [] [] []
abbrev s8 (x:H8):List aQ:=hs [] [] [] [] [] [] [] [] x [] []
abbrev s9 (x:H9):List aQ:=hs [] [] [] [] [] [] [] [] [] x []
abbrev s10 (x:Wo):List aQ:=hs [] [] [] [] [] [] [] [] [] [] x
abbrev M3 (v i n:Nat)(a:List (Nat×AV))(r:List (Nat×Row))(b:List (Nat×BX))(h:List aQ)(e:CV):=LL T B lf v i ⟨⟨n,a,gl⟩,r,b,h,e,[],T.sites v⟩
abbrev M2 (v i n:Nat)(a:List (Nat×AV))(r:List (Nat×Row))(b:List (Nat×BX))(h:List aQ):=M3 v i n a r b h ⟨.unit,()⟩
abbrev M1 (v i n:Nat)(a:List (Nat×AV))(b:List (Nat×BX))(h:List aQ):=M2 v i n a [] b h
theorem e1 (v:Nat){x:CS T v}{y:Option (wN T v)}(h:aoP T B lf v x=y:=by kernel_rfl):dB T B lf v x=y:=(Fa T B lf v x).trans h
theorem l1 (v i:Nat){σ:AS}{y:Option (wN T v)}(h:LL1 T B lf v i σ=y:=by kernel_rfl):LL T B lf v i σ=y:=(aqX T B lf v i σ).trans h
abbrev E1 {A C:Type}(f g:A→C):Prop:=∀a,f a=g a
theorem x1 {A C:Type}{f g:A→C}(h:E1 f g):g=f:=funext fun a=>(h a).symm
abbrev E2 {A C D:Type}(f g:A→C→D):Prop:=∀a b,f a b=g a b
theorem x2 {A C D:Type}{f g:A→C→D}(h:E2 f g):g=f:=funext fun a=>x1 (h a)
abbrev E3 {A C D E:Type}(f g:A→C→D→E):Prop:=∀a b c,f a b c=g a b c
theorem x3 {A C D E:Type}{f g:A→C→D→E}(h:E3 f g):g=f:=funext fun a=>x2 (h a)
abbrev E4 {A C D E F:Type}(f g:A→C→D→E→F):Prop:=∀a b c d,f a b c d=g a b c d
theorem x4 {A C D E F:Type}{f g:A→C→D→E→F}(h:E4 f g):g=f:=funext fun a=>x3 (h a)
abbrev E5 {A C D E F G:Type}(f g:A→C→D→E→F→G):Prop:=∀a b c d e,f a b c d e=g a b c d e
theorem x5 {A C D E F G:Type}{f g:A→C→D→E→F→G}(h:E5 f g):g=f:=funext fun a=>x4 (h a)
abbrev E6 {A C D E F G H:Type}(f g:A→C→D→E→F→G→H):Prop:=∀a b c d e h,f a b c d e h=g a b c d e h
theorem x6 {A C D E F G H:Type}{f g:A→C→D→E→F→G→H}(h:E6 f g):g=f:=funext fun a=>x5 (h a)
abbrev E7 {A C D E F G H I:Type}(f g:A→C→D→E→F→G→H→I):Prop:=∀a b c d e h i,f a b c d e h i=g a b c d e h i
theorem x7 {A C D E F G H I:Type}{f g:A→C→D→E→F→G→H→I}(h:E7 f g):g=f:=funext fun a=>x6 (h a)
abbrev E8 {A C D E F G H I J:Type}(f g:A→C→D→E→F→G→H→I→J):Prop:=∀a b c d e h i j,f a b c d e h i j=g a b c d e h i j
theorem x8 {A C D E F G H I J:Type}{f g:A→C→D→E→F→G→H→I→J}(h:E8 f g):g=f:=funext fun a=>x7 (h a)
abbrev E9 {A C D E F G H I J K:Type}(f g:A→C→D→E→F→G→H→I→J→K):Prop:=∀a b c d e h i j k,f a b c d e h i j k=g a b c d e h i j k
theorem x9 {A C D E F G H I J K:Type}{f g:A→C→D→E→F→G→H→I→J→K}(h:E9 f g):g=f:=funext fun a=>x8 (h a)
abbrev E10 {A C D E F G H I J K L:Type}(f g:A→C→D→E→F→G→H→I→J→K→L):Prop:=∀a b c d e h i j k l,f a b c d e h i j k l=g a b c d e h i j k l
theorem x10 {A C D E F G H I J K L:Type}{f g:A→C→D→E→F→G→H→I→J→K→L}(h:E10 f g):g=f:=funext fun a=>x9 (h a)
abbrev E11 {A C D E F G H I J K L M:Type}(f g:A→C→D→E→F→G→H→I→J→K→L→M):Prop:=∀a b c d e h i j k l m,f a b c d e h i j k l m=g a b c d e h i j k l m
theorem x11 {A C D E F G H I J K L M:Type}{f g:A→C→D→E→F→G→H→I→J→K→L→M}(h:E11 f g):g=f:=funext fun a=>x10 (h a)
abbrev E12 {A C D E F G H I J K L M N:Type}(f g:A→C→D→E→F→G→H→I→J→K→L→M→N):Prop:=∀a b c d e h i j k l m n,f a b c d e h i j k l m n=g a b c d e h i j k l m n
theorem x12 {A C D E F G H I J K L M N:Type}{f g:A→C→D→E→F→G→H→I→J→K→L→M→N}(h:E12 f g):g=f:=funext fun a=>x11 (h a)
abbrev E13 {A C D E F G H I J K L M N O:Type}(f g:A→C→D→E→F→G→H→I→J→K→L→M→N→O):Prop:=∀a b c d e h i j k l m n o,f a b c d e h i j k l m n o=g a b c d e h i j k l m n o
theorem x13 {A C D E F G H I J K L M N O:Type}{f g:A→C→D→E→F→G→H→I→J→K→L→M→N→O}(h:E13 f g):g=f:=funext fun a=>x12 (h a)
abbrev E14 {A C D E F G H I J K L M N O P:Type}(f g:A→C→D→E→F→G→H→I→J→K→L→M→N→O→P):Prop:=∀a b c d e h i j k l m n o p,f a b c d e h i j k l m n o p=g a b c d e h i j k l m n o p
theorem x14 {A C D E F G H I J K L M N O P:Type}{f g:A→C→D→E→F→G→H→I→J→K→L→M→N→O→P}(h:E14 f g):g=f:=funext fun a=>x13 (h a)
abbrev E15 {A C D E F G H I J K L M N O P Q:Type}(f g:A→C→D→E→F→G→H→I→J→K→L→M→N→O→P→Q):Prop:=∀a b c d e h i j k l m n o p q,f a b c d e h i j k l m n o p q=g a b c d e h i j k l m n o p q
theorem x15 {A C D E F G H I J K L M N O P Q:Type}{f g:A→C→D→E→F→G→H→I→J→K→L→M→N→O→P→Q}(h:E15 f g):g=f:=funext fun a=>x14 (h a)
abbrev E16 {A C D E F G H I J K L M N O P Q R:Type}(f g:A→C→D→E→F→G→H→I→J→K→L→M→N→O→P→Q→R):Prop:=∀a b c d e h i j k l m n o p q r,f a b c d e h i j k l m n o p q r=g a b c d e h i j k l m n o p q r
theorem x16 {A C D E F G H I J K L M N O P Q R:Type}{f g:A→C→D→E→F→G→H→I→J→K→L→M→N→O→P→Q→R}(h:E16 f g):g=f:=funext fun a=>x15 (h a)
abbrev E17 {A C D E F G H I J K L M N O P Q R S:Type}(f g:A→C→D→E→F→G→H→I→J→K→L→M→N→O→P→Q→R→S):Prop:=∀a b c d e h i j k l m n o p q r s,f a b c d e h i j k l m n o p q r s=g a b c d e h i j k l m n o p q r s
theorem x17 {A C D E F G H I J K L M N O P Q R S:Type}{f g:A→C→D→E→F→G→H→I→J→K→L→M→N→O→P→Q→R→S}(h:E17 f g):g=f:=funext fun a=>x16 (h a)
abbrev E18 {A C D E F G H I J K L M N O P Q R S U:Type}(f g:A→C→D→E→F→G→H→I→J→K→L→M→N→O→P→Q→R→S→U):Prop:=∀a b c d e h i j k l m n o p q r s t,f a b c d e h i j k l m n o p q r s t=g a b c d e h i j k l m n o p q r s t
theorem x18 {A C D E F G H I J K L M N O P Q R S U:Type}{f g:A→C→D→E→F→G→H→I→J→K→L→M→N→O→P→Q→R→S→U}(h:E18 f g):g=f:=funext fun a=>x17 (h a)
abbrev E19 {A C D E F G H I J K L M N O P Q R S U V:Type}(f g:A→C→D→E→F→G→H→I→J→K→L→M→N→O→P→Q→R→S→U→V):Prop:=∀a b c d e h i j k l m n o p q r s t u,f a b c d e h i j k l m n o p q r s t u=g a b c d e h i j k l m n o p q r s t u
theorem x19 {A C D E F G H I J K L M N O P Q R S U V:Type}{f g:A→C→D→E→F→G→H→I→J→K→L→M→N→O→P→Q→R→S→U→V}(h:E19 f g):g=f:=funext fun a=>x18 (h a)
abbrev E20 {A C D E F G H I J K L M N O P Q R S U V W:Type}(f g:A→C→D→E→F→G→H→I→J→K→L→M→N→O→P→Q→R→S→U→V→W):Prop:=∀a b c d e h i j k l m n o p q r s t u v,f a b c d e h i j k l m n o p q r s t u v=g a b c d e h i j k l m n o p q r s t u v
theorem x20 {A C D E F G H I J K L M N O P Q R S U V W:Type}{f g:A→C→D→E→F→G→H→I→J→K→L→M→N→O→P→Q→R→S→U→V→W}(h:E20 f g):g=f:=funext fun a=>x19 (h a)
abbrev E21 {A C D E F G H I J K L M N O P Q R S U V W X:Type}(f g:A→C→D→E→F→G→H→I→J→K→L→M→N→O→P→Q→R→S→U→V→W→X):Prop:=∀a b c d e h i j k l m n o p q r s t u v w,f a b c d e h i j k l m n o p q r s t u v w=g a b c d e h i j k l m n o p q r s t u v w
theorem x21 {A C D E F G H I J K L M N O P Q R S U V W X:Type}{f g:A→C→D→E→F→G→H→I→J→K→L→M→N→O→P→Q→R→S→U→V→W→X}(h:E21 f g):g=f:=funext fun a=>x20 (h a)
abbrev E22 {A C D E F G H I J K L M N O P Q R S U V W X Y:Type}(f g:A→C→D→E→F→G→H→I→J→K→L→M→N→O→P→Q→R→S→U→V→W→X→Y):Prop:=∀a b c d e h i j k l m n o p q r s t u v w x,f a b c d e h i j k l m n o p q r s t u v w x=g a b c d e h i j k l m n o p q r s t u v w x
theorem x22 {A C D E F G H I J K L M N O P Q R S U V W X Y:Type}{f g:A→C→D→E→F→G→H→I→J→K→L→M→N→O→P→Q→R→S→U→V→W→X→Y}(h:E22 f g):g=f:=funext fun a=>x21 (h a)
abbrev ae {α:Type}(_:α):Type:=α
def jv {α:Type}(f:α)(b:Nat→α)(n:Nat):α:=Nat.rec f (fun k _=>b k) n
def yB {α:Type}(f:α)(b:Nat→α→α)(n:Nat):α:=Nat.rec f (fun k x=>b k x) n
theorem bE {α:Type}{f:α}{b:Nat→α}(h:∀w,b w=f):∀w,jv f b w=f
 |0=>rfl
 |w+1=>h w
theorem mkLe {α:Type}{f:α}{b:Nat→α→α}(h:∀w,b w f=f):∀w,yB f b w=f
 |0=>rfl
 |w+1=>by show b w (yB f b w)=f;rw[mkLe h w];exact h w
def lP (raw:(List (List Int))×(List Int)×Int×(List Int)×Unit):Option Bool:=dB T B lf 11 raw
def kU:Option Bool:=dB T B lf 13 ()
def oD (x:(List (List Int))×(List Int)×Int×(List Int)×Unit)(most:Int):Option Db:=dB T B lf 14 (x,most)
def eB (n:Int)(x:List (List Int))(x2:List Int)(x3:Int)(x4:List Int)(t:Int)(t2:Nat)(c:Int)(c2:J0):Option Db:=
 M1 14 0 134 [(9,aL n),bx 7,bx 4,bx 2] [(2,ce [⟨.slice zV,x⟩,⟨zV,x2⟩,⟨zI,x3⟩,⟨zV,x4⟩]),cr 4 t 0 t2,ch 7 c c2] h0
def fF (n:Int)(j:Int)(k:Int)(i:Int)(x:List (List Int))(x2:List Int)(x3:Int)(x4:List Int)(t:Int)(t2:Nat)(c:Int)(c2:J0):Option Db:=
 M1 14 1 134 [(12,aL i),(11,aL k),(10,aL j),(9,aL n),bx 7,bx 4,bx 2] [(2,ce [⟨.slice zV,x⟩,⟨zV,x2⟩,⟨zI,x3⟩,⟨zV,x4⟩]),cr 4 t 0 t2,ch 7 c c2] h0
def mR (c:Db)(sY:H0):Option ((Int×Nat×Unit)×H0):=dB T B lf 15 (c,sY)
def eW (i:Int)(c:Int)(c2:J0)(t:Int)(t2:Nat)(out:Int)(aG:Nat)(sY:H0):Option ((Int×Nat×Unit)×H0):=
 M1 15 0 33 [(4,aL i),bx 3,bx 2,bx 1] [ch 1 c c2,cr 2 t 0 t2,cr 3 out 0 aG] (s0 sY)
def pw (c:Db):Option (Db×Int):=dB T B lf 18 c
def jw (last:Int)(t:Int)(t2:Int)(c:Int)(c2:J0)(t3:Int)(t4:Nat)(out:Int)(aG:Nat)(hp1:H1):Option (Db×Int):=
 M1 18 0 107 [(35,aL t2),(34,aL t),bx 6,(5,aL last),bx 2,bx 1] [ch 1 c c2,cr 2 t3 0 t4,cr 6 out 1 aG] (s1 hp1)
def hU (last:Int)(k:Int)(c:Int)(c2:J0)(t:Int)(t2:Nat)(out:Int)(aG:Nat)(hp1:H1):Option (Db×Int):=
 M1 18 1 107 [(11,aL k),bx 6,(5,aL last),bx 2,bx 1] [ch 1 c c2,cr 2 t 0 t2,cr 6 out 1 aG] (s1 hp1)
def qC (last:Int)(k:Int)(t:kn)(t2:Int)(t3:Int)(c:Int)(c2:J0)(t4:Int)(t5:Nat)(out:Int)(aG:Nat)(hp1:H1):Option (Db×Int):=
 M1 18 2 107 [(80,aL t3),(79,aL t2),(78,rc zO t),(11,aL k),bx 6,(5,aL last),bx 2,bx 1] [ch 1 c c2,cr 2 t4 0 t5,cr 6 out 1 aG] (s1 hp1)
def eX (last:Int)(k:Int)(t:kn)(t2:Int)(t3:Int)(c:Int)(c2:J0)(t4:Int)(t5:Nat)(out:Int)(aG:Nat)(hp1:H1)(hp2:H2):Option (Db×Int):=
 M1 18 2 107 [(80,aL t3),(79,aL t2),(78,rc zO t),(11,aL k),bx 6,(5,aL last),bx 2,bx 1] [ch 1 c c2,cr 2 t4 0 t5,cr 6 out 1 aG] (hs [] hp1 hp2 [] [] [] [] [] [] [] [])
def ig (last:Int)(k:Int)(c:Int)(c2:J0)(t:Int)(t2:Nat)(out:Int)(aG:Nat)(hp1:H1)(hp2:H2):Option (Db×Int):=
 M1 18 1 107 [(11,aL k),bx 6,(5,aL last),bx 2,bx 1] [ch 1 c c2,cr 2 t 0 t2,cr 6 out 1 aG] (hs [] hp1 hp2 [] [] [] [] [] [] [] [])
def gm (c:Db):Option (kn×Pg×Int):=dB T B lf 20 c
def cU (a:kn)(b:kn):Option Bool:=dB T B lf 23 (a,b)
def bJ (a:kn)(b:kn)(i:Int):Option Bool:=
 M1 23 0 26 [(5,aL i),(1,rc zO b),(0,rc zO a)] [] h0
def kN (c:Db):Option (kn×Pg×Int):=dB T B lf 24 c
def fx (c:Db):Option (kn×Pg×Int):=dB T B lf 26 c
def bY (l:Nat)(last:Int)(t:Nat)(t2:Int)(t3:Int)(t4:Int)(t5:Int)(w:Int)(w2:Int)(cO:H2):Option (kn×Pg×Int):=
 M1 26 0 66 [(33,aL t3),(32,aL t2),(31,rc (.ref 3) t),(9,aL last),bx 8,(7,rc (.ref 3) l),bx 3] [(3,ce [⟨zI,t4⟩,⟨zI,t5⟩]),(8,ce [⟨zI,w⟩,⟨zI,w2⟩])] (s3 cO)
def lk:Option Db:=dB T B lf 28 ()
def oE (c:Db):Option kn:=dB T B lf 29 c
def BO (n:Int)(r:Nat)(i:Int)(c:Int)(c2:J0)(ar:Wo):Option kn:=
 M1 29 0 126 [(5,aL i),(4,rc (.ref 10) r),(3,aL n),bx 1] [ch 1 c c2] (s10 ar)
def fG (n:Int)(r:Nat)(i:Int)(j:Int)(c:Int)(c2:J0)(aj:H4)(ar:Wo):Option kn:=
 M1 29 1 126 [(6,aL j),(5,aL i),(4,rc (.ref 10) r),(3,aL n),bx 1] [ch 1 c c2] (hs [] [] [] [] aj [] [] [] [] [] ar)
def gI (n:Int)(r:Nat)(i:Int)(c:Int)(c2:J0)(aj:H4)(ar:Wo):Option kn:=
 M1 29 0 126 [(5,aL i),(4,rc (.ref 10) r),(3,aL n),bx 1] [ch 1 c c2] (hs [] [] [] [] aj [] [] [] [] [] ar)
def cV (n:Int)(r:Nat)(i:Int)(eY:List Int)(used:List Bool)(aj:H4)(ar:Wo):Option kn:=
 M2 29 2 126 [(9,aL i),(8,ro 8),(7,ro 7),(4,rc (.ref 10) r),(3,aL n)] [(7,⟨3,zI,eY⟩),(8,⟨4, .bool,used⟩)] [] (hs [] [] [] [] aj [] [] [] [] [] ar)
def b5 (n:Int)(r:Nat)(i:Int)(j:Int)(eY:List Int)(used:List Bool)(aj:H4)(ar:Wo):Option kn:=
 M2 29 3 126 [(10,aL j),(9,aL i),(8,ro 8),(7,ro 7),(4,rc (.ref 10) r),(3,aL n)] [(7,⟨3,zI,eY⟩),(8,⟨4, .bool,used⟩)] [] (hs [] [] [] [] aj [] [] [] [] [] ar)
def dH (n:Int)(i:Int)(eY:List Int)(used:List Bool)(out:kn)(aj:H4)(ar:Wo):Option kn:=
 M2 29 4 126 [(12,aL i),(11,ro 11),(8,ro 8),(7,ro 7),(3,aL n)] [(7,⟨3,zI,eY⟩),(8,⟨4, .bool,used⟩),(11,⟨58, .st yT,out⟩)] [] (hs [] [] [] [] aj [] [] [] [] [] ar)
def fV (a:kn)(b:kn):Option Bool:=dB T B lf 30 (a,b)
def b6 (a:kn)(b:kn)(i:Int):Option Bool:=
 M1 30 0 26 [(5,aL i),(1,rc zO b),(0,rc zO a)] [] h0
def sZ (l:List Int):Option kn:=dB T B lf 31 l
def iH (l:List Int)(i:Int)(out:kn):Option kn:=
 M2 31 0 26 [(4,aL i),(3,ro 3),(0,rc zV l)] [(3,⟨44, .st yT,out⟩)] [] h0
def oF (l:List (List Int))(values:List Int)(most:Int)(dim:Int)(n:Int):Option (List ((List Int)×ByteArray×Unit)):=dB T B lf 32 (l,values,most,dim,n)
def fH (values:List Int)(c:List (List Int))(i:Int)(at0:List ByteArray):Option (List ((List Int)×ByteArray×Unit)):=
 M2 32 0 57 [(13,aL i),(12,ro 12),(11,rc (.slice zV) c),(1,rc zV values)] [(12,⟨39, .str,at0⟩)] [] h0
def jx (f:List ((List Int)×ByteArray×Unit))(p:Int):Option (Db×Int):=dB T B lf 33 (f,p)
def ja (f:List ((List Int)×ByteArray×Unit))(p:Int)(j:Int)(t:Int)(t2:Nat)(out:Int)(aG:Nat):Option (Db×Int):=
 M1 33 0 93 [(8,aL j),bx 7,bx 4,(1,aL p),(0,rc (.slice (.st (.pair zV (.pair (.str) (.unit))))) f)] [cr 4 t 0 t2,cr 7 out 0 aG] h0
def gJ (f:List ((List Int)×ByteArray×Unit))(p:Int)(j:Int)(v:Nat)(ij:List (List Int))(k:Int)(t:Int)(t2:Nat)(out:Int)(aG:Nat)(aj:H4):Option (Db×Int):=
 M1 33 1 93 [(11,aL k),(10,rc (.slice zV) ij),(9,rc (.ref 4) v),(8,aL j),bx 7,bx 4,(1,aL p),(0,rc (.slice (.st (.pair zV (.pair (.str) (.unit))))) f)] [cr 4 t 0 t2,cr 7 out 0 aG] (s4 aj)
def gK (f:List ((List Int)×ByteArray×Unit))(p:Int)(j:Int)(v:Nat)(ij:List (List Int))(k:Int)(i:Int)(t:Int)(t2:Nat)(out:Int)(aG:Nat)(aj:H4):Option (Db×Int):=
 M1 33 2 93 [(12,aL i),(11,aL k),(10,rc (.slice zV) ij),(9,rc (.ref 4) v),(8,aL j),bx 7,bx 4,(1,aL p),(0,rc (.slice (.st (.pair zV (.pair (.str) (.unit))))) f)] [cr 4 t 0 t2,cr 7 out 0 aG] (s4 aj)
def cW (f:List ((List Int)×ByteArray×Unit))(p:Int)(j:Int)(t:Int)(t2:Nat)(out:Int)(aG:Nat)(sY:H0)(aj:H4):Option (Db×Int):=
 M1 33 0 93 [(8,aL j),bx 7,bx 4,(1,aL p),(0,rc (.slice (.st (.pair zV (.pair (.str) (.unit))))) f)] [cr 4 t 0 t2,cr 7 out 0 aG] (hs sY [] [] [] aj [] [] [] [] [] [])
def dC (f:List ((List Int)×ByteArray×Unit))(p:Int)(j:Int)(v:Nat)(ij:List (List Int))(k:Int)(t:Int)(t2:Nat)(out:Int)(aG:Nat)(sY:H0)(aj:H4):Option (Db×Int):=
 M1 33 1 93 [(11,aL k),(10,rc (.slice zV) ij),(9,rc (.ref 4) v),(8,aL j),bx 7,bx 4,(1,aL p),(0,rc (.slice (.st (.pair zV (.pair (.str) (.unit))))) f)] [cr 4 t 0 t2,cr 7 out 0 aG] (hs sY [] [] [] aj [] [] [] [] [] [])
def eL (f:List ((List Int)×ByteArray×Unit))(p:Int)(j:Int)(v:Nat)(ij:List (List Int))(k:Int)(i:Int)(t:Int)(t2:Nat)(out:Int)(aG:Nat)(sY:H0)(aj:H4):Option (Db×Int):=
 M1 33 2 93 [(12,aL i),(11,aL k),(10,rc (.slice zV) ij),(9,rc (.ref 4) v),(8,aL j),bx 7,bx 4,(1,aL p),(0,rc (.slice (.st (.pair zV (.pair (.str) (.unit))))) f)] [cr 4 t 0 t2,cr 7 out 0 aG] (hs sY [] [] [] aj [] [] [] [] [] [])
def oG (n:Int):Option Int:=dB T B lf 34 n
def qw (c:Db)(i:Int)(j:Int)(k:Int)(m:Int):Option Db:=dB T B lf 35 (c,i,j,k,m)
def gw (i:Int)(j:Int)(k:Int)(m:Int)(inv:Int)(v:Nat)(a:List Int)(b:List Int)(n:Int)(c:Int)(c2:J0)(t:Int)(t2:Nat)(out:Int)(aG:Nat)(sY:H0)(aj:H4):Option Db:=
 M1 35 0 149 [(16,aL n),(15,rc zV b),(14,rc zV a),(13,rc (.ref 4) v),(12,aL inv),bx 11,bx 10,bx 5,(4,aL m),(3,aL k),(2,aL j),(1,aL i)] [ch 5 c c2,cr 10 t 0 t2,cr 11 out 0 aG] (hs sY [] [] [] aj [] [] [] [] [] [])
def gz (i:Int)(j:Int)(m:Int)(inv:Int)(n:Int)(c:Int)(c2:J0)(t:Int)(t2:Nat)(out:Int)(aG:Nat)(sY:H0)(aj:H4):Option Db:=
 M1 35 1 149 [(17,aL n),(12,aL inv),bx 11,bx 10,bx 5,(4,aL m),(2,aL j),(1,aL i)] [ch 5 c c2,cr 10 t 0 t2,cr 11 out 0 aG] (hs sY [] [] [] aj [] [] [] [] [] [])
def gL (p:Int):Option Bool:=dB T B lf 36 p
def eC (p:Int)(k:Int):Option Bool:=
 M1 36 0 23 [(3,aL k),(0,aL p)] [] h0
def jb (x:kn)(n:Int):Option (List Int):=dB T B lf 38 (x,n)
def fI (x:kn)(i:Int)(out:List Int):Option (List Int):=
 M2 38 0 28 [(6,aL i),(5,ro 5),(0,rc zO x)] [(5,⟨3,zI,out⟩)] [] h0
def jR (c:Db):Option Int:=dB T B lf 41 c
def ed (t:J0)(t2:Int)(t3:Int)(c:Int)(c2:J0)(last:Bool)(ajJ:List Int)(ajK:Bool)(ajL:List Int):Option Int:=
 M1 41 0 81 [(20,aL t3),(19,aL t2),(18,rc zP t),bx 3,bx 1] [ch 1 c c2,(3,ce [⟨.bool,last⟩,⟨zU,ajJ⟩,⟨.bool,ajK⟩,⟨zU,ajL⟩])] h0
def gM (a:ByteArray):Option (((Bool×(List Int)×Unit)×(Bool×(List Int)×Unit)×Unit)×Bool):=dB T B lf 42 a
def nz (a:(Bool×(List Int)×Unit)×(Bool×(List Int)×Unit)×Unit):Option ((Bool×(List Int)×Unit)×(Bool×(List Int)×Unit)×Unit):=dB T B lf 43 a
def ll (a:(Bool×(List Int)×Unit)×(Bool×(List Int)×Unit)×Unit):Option ByteArray:=dB T B lf 44 a
def slices_SortFunc (x:Nat)(cO:H2):Option ((Unit)×H2):=dB T B lf 50 ((x,()),cO)
def qx (c:Db)(i:Int)(j:Int):Option Int:=dB T B lf 52 (c,i,j)
def gB (i:Int)(j:Int)(k:Int)(m:List (List Int))(c:Int)(c2:J0):Option Int:=
 M2 52 0 33 [(8,aL k),(7,ro 7),bx 3,(2,aL j),(1,aL i)] [(7,⟨26,zV,m⟩)] [ch 3 c c2] h0
def oH (l:List (List Int)):Option (List (List Int)):=dB T B lf 53 l
def fJ (l:List (List Int))(i:Int)(out:List (List Int)):Option (List (List Int)):=
 M2 53 0 21 [(4,aL i),(3,ro 3),(0,rc (.slice zV) l)] [(3,⟨26,zV,out⟩)] [] h0
def oI (l:List (List Int))(most:Int)(dim:Int)(n:Int):Option (List (List Int)):=dB T B lf 54 (l,most,dim,n)
def fK (l:List (List Int))(most:Int)(dim:Int)(n:Int)(i:Int)(Vm:List (List Int)):Option (List (List Int)):=
 M2 54 0 49 [(10,aL i),(9,ro 9),(3,aL n),(2,aL dim),(1,aL most),(0,rc (.slice zV) l)] [(9,⟨26,zV,Vm⟩)] [] h0
def eD (t:List (List Int))(t2:Int)(t3:Int)(out:List (List Int)):Option (List (List Int)):=
 M2 54 1 49 [(39,aL t3),(38,aL t2),(37,rc (.slice zV) t),(11,ro 11)] [(11,⟨99,zV,out⟩)] [] h0
def oJ (n:Int):Option ByteArray:=dB T B lf 55 n
def uo (l:List (List Int))(values:List ByteArray):Option ((List ((List Int)×ByteArray×Unit))×Int):=dB T B lf 56 (l,values)
def jc (l:List (List Int))(values:List ByteArray)(i:Int):Option ((List ((List Int)×ByteArray×Unit))×Int):=
 M1 56 0 83 [(7,aL i),(1,rc (.slice (.str)) values),(0,rc (.slice zV) l)] [] h0
def gN (l:List (List Int))(values:List ByteArray)(i:Int)(out:List ((List Int)×ByteArray×Unit)):Option ((List ((List Int)×ByteArray×Unit))×Int):=
 M2 56 1 83 [(9,aL i),(8,ro 8),(1,rc (.slice (.str)) values),(0,rc (.slice zV) l)] [(8,⟨101, .st (.pair zV (.pair (.str) (.unit))),out⟩)] [] h0
def jd (l:List (List Int))(values:List ByteArray)(i:Int)(at0:ByteArray)(k:Int)(out:List ((List Int)×ByteArray×Unit)):Option ((List ((List Int)×ByteArray×Unit))×Int):=
 M2 56 2 83 [(11,aL k),(10,rc .str at0),(9,aL i),(8,ro 8),(1,rc (.slice (.str)) values),(0,rc (.slice zV) l)] [(8,⟨101, .st (.pair zV (.pair (.str) (.unit))),out⟩)] [] h0
def je (f:List ((List Int)×ByteArray×Unit)):Option Int:=dB T B lf 57 f
def cz (f:List ((List Int)×ByteArray×Unit))(i:Int):Option Int:=
 M1 57 0 59 [(3,aL i),(0,rc (.slice (.st (.pair zV (.pair (.str) (.unit))))) f)] [] h0
def dg (f:List ((List Int)×ByteArray×Unit))(i:Int)(ij:List (List Int))(k:Int):Option Int:=
 M1 57 1 59 [(6,aL k),(5,rc (.slice zV) ij),(3,aL i),(0,rc (.slice (.st (.pair zV (.pair (.str) (.unit))))) f)] [] h0
def bK (s:List Int):Option (List (List Int)):=dB T B lf 58 s
def cX (s:List Int)(i:Int)(out:List (List Int)):Option (List (List Int)):=
 M2 58 0 23 [(4,aL i),(3,ro 3),(0,rc zV s)] [(3,⟨26,zV,out⟩)] [] h0
def aZ (a:List Int)(b:List Int):Option Int:=dB T B lf 59 (a,b)
def eM (a:List Int)(b:List Int)(i:Int):Option Int:=
 M1 59 0 40 [(5,aL i),(1,rc zV b),(0,rc zV a)] [] h0
def gC (p:Int)(a:Int):Option Int:=dB T B lf 60 (p,a)
def eH (p:Int)(a:Int)(b:Int):Option Int:=
 M1 60 0 18 [(5,aL b),(1,aL a),(0,aL p)] [] h0
def fy (a:ByteArray):Option Bool:=dB T B lf 61 a
def bV (a:ByteArray)(b:ByteArray):Option Int:=dB T B lf 64 (a,b)
def cQ (a:ByteArray):Option (ByteArray×ByteArray×Bool):=dB T B lf 65 a
def dh (a:ByteArray)(i:Int):Option (ByteArray×ByteArray×Bool):=
 M1 65 0 24 [(5,aL i),(0,rc .str a)] [] h0
def di (a:ByteArray):Option ByteArray:=dB T B lf 66 a
def ln (p:Int):Option Bool:=dB T B lf 67 p
def jy (p:Int)(t:Int):Option Bool:=
 M1 67 0 27 [(4,aL t),(0,aL p)] [] h0
def sc (a:ByteArray):Option Bool:=dB T B lf 68 a
def ku (p:Int)(c:kn):Option Int:=dB T B lf 69 (p,c)
def gu (p:Int)(c:kn)(t:kn)(t2:Int)(t3:Int):Option Int:=
 M1 69 0 52 [(12,aL t3),(11,aL t2),(10,rc zO t),(1,rc zO c),(0,aL p)] [] h0
def qD (t:Int×Int×Unit)(t2:Int):Option Bool:=dB T B lf 71 (t,t2)
def qE (t:Int×Int×Unit)(t2:Db)(t3:zqC):Option Bool:=dB T B lf 72 (t,t2,t3)
def se (c:Db)(x:kn):Option kn:=dB T B lf 73 (c,x)
def lq (t:kn)(t2:Int)(t3:Int)(out:kn)(c:Int)(c2:J0):Option kn:=
 M2 73 0 31 [(9,aL t3),(8,aL t2),(7,rc zO t),(4,ro 4),bx 2] [(4,⟨44, .st yT,out⟩)] [ch 2 c c2] h0
def fu (out:kn)(t:kn)(t2:Int)(t3:Int)(c:Int)(c2:J0):Option kn:=
 M1 73 0 31 [(9,aL t3),(8,aL t2),(7,rc zO t),(4,rc zO out),bx 2] [ch 2 c c2] h0
def nA (a:(Bool×(List Int)×Unit)×(Bool×(List Int)×Unit)×Unit)(b:(Bool×(List Int)×Unit)×(Bool×(List Int)×Unit)×Unit):Option Int:=dB T B lf 74 (a,b)
def sf (s:ByteArray)(sep:ByteArray):Option (ByteArray×ByteArray×Bool):=dB T B lf 75 (s,sep)
def Dc (a:ByteArray):Option ((Bool×(List Int)×Unit)×Bool):=dB T B lf 76 a
def jS (s:ByteArray)(neg:Bool)(N5:Int)(d:List Int)(t:Bool)(t2:List Int):Option ((Bool×(List Int)×Unit)×Bool):=
 M2 76 0 71 [(7,aL N5),(6,ro 6),(5,rc .bool neg),(4,rc .str s),bx 2] [(6,⟨168, .int .u32,d⟩)] [(2,ce [⟨.bool,t⟩,⟨zU,t2⟩])] h0
def mS (s:ByteArray)(neg:Bool)(N5:Int)(x:Int)(t:List Int)(t2:Int)(t3:Int)(d:List Int)(t4:Bool)(t5:List Int):Option ((Bool×(List Int)×Unit)×Bool):=
 M2 76 1 71 [(46,aL t3),(45,aL t2),(44,rc (.slice (.int .u8)) t),(8,rc (.int .u32) x),(7,aL N5),(6,ro 6),(5,rc .bool neg),(4,rc .str s),bx 2] [(6,⟨168, .int .u32,d⟩)] [(2,ce [⟨.bool,t4⟩,⟨zU,t5⟩])] h0
def wY (n:Int):Option (Bool×(List Int)×Unit):=dB T B lf 77 n
def ta (u:Int)(neg:Bool)(d:List Int)(t:Bool)(t2:List Int):Option (Bool×(List Int)×Unit):=
 M2 77 0 26 [(5,ro 5),(4,rc .bool neg),(3,rc (.int .u64) u),bx 2] [(5,⟨168, .int .u32,d⟩)] [(2,ce [⟨.bool,t⟩,⟨zU,t2⟩])] h0
def ik (a:Bool×(List Int)×Unit):Option Int:=dB T B lf 78 a
def gp (a:Bool×(List Int)×Unit)(b:Bool×(List Int)×Unit):Option Int:=dB T B lf 79 (a,b)
def nB (a:Bool×(List Int)×Unit)(b:Bool×(List Int)×Unit):Option (Bool×(List Int)×Unit):=dB T B lf 80 (a,b)
def eo (x:List Int)(y:List Int)(t:Bool)(t2:List Int):Option (Bool×(List Int)×Unit):=
 M1 80 0 41 [(6,rc zU y),(5,rc zU x),bx 4] [(4,ce [⟨.bool,t⟩,⟨zU,t2⟩])] h0
def nC (a:Bool×(List Int)×Unit):Option (Bool×(List Int)×Unit):=dB T B lf 81 a
def jz (a:(Bool×(List Int)×Unit)×(Bool×(List Int)×Unit)×Unit):Option (Bool×(List Int)×Unit):=dB T B lf 82 a
def lr (a:Bool×(List Int)×Unit):Option ByteArray:=dB T B lf 83 a
def dD (t:List Int)(t2:Int)(t3:Int)(out:List Int)(a:Bool)(a2:List Int):Option ByteArray:=
 M2 83 0 81 [(21,aL t3),(20,aL t2),(19,rc zU t),(3,ro 3),bx 1] [(3,⟨5, .int .u8,out⟩)] [(1,ce [⟨.bool,a⟩,⟨zU,a2⟩])] h0
def eN (x:Int)(t:List Int)(t2:Int)(t3:Int)(t4:Int)(out:List Int)(a:Bool)(a2:List Int):Option ByteArray:=
 M2 83 1 81 [(25,aL t4),(21,aL t3),(20,aL t2),(19,rc zU t),(5,rc (.int .u32) x),(3,ro 3),bx 1] [(3,⟨5, .int .u8,out⟩)] [(1,ce [⟨.bool,a⟩,⟨zU,a2⟩])] h0
def dE (out:List Int)(a:Bool)(a2:List Int):Option ByteArray:=
 M2 83 2 81 [(3,ro 3),bx 1] [(3,⟨5, .int .u8,out⟩)] [(1,ce [⟨.bool,a⟩,⟨zU,a2⟩])] h0
def dF (i:Int)(j:Int)(out:List Int):Option ByteArray:=
 M2 83 3 81 [(7,aL j),(6,aL i),(3,ro 3)] [(3,⟨5, .int .u8,out⟩)] [] h0
def mT (s:kn):Option kn:=dB T B lf 84 s
def jf (c:kn):Option (Int×Bool):=dB T B lf 85 c
def wZ (p:Int)(a:Int):Option (Int×Int):=dB T B lf 86 (p,a)
def jg (p:Int)(a:kn)(k:Int)(b:kn):Option (kn×Int):=dB T B lf 87 (p,a,k,b)
def aaa (p:Int)(a:Int):Option Int:=dB T B lf 88 (p,a)
def jY (p:Int)(m:List (List Int)):Option Int:=dB T B lf 92 (p,m)
def AE (p:Int)(m:List (List Int))(rows:Nat)(i:Int):Option Int:=
 M1 92 0 152 [(6,aL i),(5,rc (.ref 10) rows),(1,rc (.slice zV) m),(0,aL p)] [] h0
def iX (p:Int)(m:List (List Int))(rows:Nat)(i:Int)(aj:H4)(ar:Wo):Option Int:=
 M1 92 0 152 [(6,aL i),(5,rc (.ref 10) rows),(1,rc (.slice zV) m),(0,aL p)] [] (hs [] [] [] [] aj [] [] [] [] [] ar)
def aJ (p:Int)(rows:Nat)(kv:Int)(col:Int)(aj:H4)(ar:Wo):Option Int:=
 M1 92 1 152 [(8,aL col),(7,aL kv),(5,rc (.ref 10) rows),(0,aL p)] [] (hs [] [] [] [] aj [] [] [] [] [] ar)
def bp (p:Int)(rows:Nat)(kv:Int)(col:Int)(pivot:Int)(aj:H4)(ar:Wo):Option Int:=
 M1 92 2 152 [(9,aL pivot),(8,aL col),(7,aL kv),(5,rc (.ref 10) rows),(0,aL p)] [] (hs [] [] [] [] aj [] [] [] [] [] ar)
def bQ (p:Int)(rows:Nat)(kv:Int)(col:Int)(inv:Int)(i:Int)(aj:H4)(ar:Wo):Option Int:=
 M1 92 3 152 [(11,aL i),(10,aL inv),(8,aL col),(7,aL kv),(5,rc (.ref 10) rows),(0,aL p)] [] (hs [] [] [] [] aj [] [] [] [] [] ar)
def dd (p:Int)(rows:Nat)(kv:Int)(col:Int)(inv:Int)(i:Int)(k:Int)(j:Int)(aj:H4)(ar:Wo):Option Int:=
 M1 92 4 152 [(13,aL j),(12,aL k),(11,aL i),(10,aL inv),(8,aL col),(7,aL kv),(5,rc (.ref 10) rows),(0,aL p)] [] (hs [] [] [] [] aj [] [] [] [] [] ar)
def oK (l:List Int)(most:Int)(n:Int):Option (List Int):=dB T B lf 93 (l,most,n)
def fL (l:List Int)(most:Int)(n:Int)(i:Int)(out:List Int):Option (List Int):=
 M2 93 0 52 [(8,aL i),(7,ro 7),(2,aL n),(1,aL most),(0,rc zV l)] [(7,⟨3,zI,out⟩)] [] h0
def jZ (l:List (List Int)):Option (List (List Int)):=dB T B lf 94 l
def eZ (l:List (List Int))(i:Int)(out:List (List Int)):Option (List (List Int)):=
 M2 94 0 31 [(4,aL i),(3,ro 3),(0,rc (.slice zV) l)] [(3,⟨26,zV,out⟩)] [] h0
def mU (l:List (List Int))(i:Int)(f:List (List Int))(k:Int)(out:List (List Int)):Option (List (List Int)):=
 M2 94 1 31 [(6,aL k),(5,rc (.slice zV) f),(4,aL i),(3,ro 3),(0,rc (.slice zV) l)] [(3,⟨26,zV,out⟩)] [] h0
def cm (l:List (List Int))(out:List (List Int))(i:Int)(f:List (List Int))(k:Int):Option (List (List Int)):=
 M1 94 1 31 [(6,aL k),(5,rc (.slice zV) f),(4,aL i),(3,rc (.slice zV) out),(0,rc (.slice zV) l)] [] h0
def fW (l:List (List Int))(out:List (List Int))(i:Int):Option (List (List Int)):=
 M1 94 0 31 [(4,aL i),(3,rc (.slice zV) out),(0,rc (.slice zV) l)] [] h0
def fM (a:Int)(b:Int):Option ByteArray:=dB T B lf 95 (a,b)
def oL (l:List (List Int)):Option Int:=dB T B lf 96 l
def eE (l:List (List Int))(i:Int):Option Int:=
 M1 96 0 72 [(3,aL i),(0,rc (.slice zV) l)] [] h0
def fN (l:List (List Int))(i:Int)(f:List (List Int))(k:Int):Option Int:=
 M1 96 1 72 [(6,aL k),(5,rc (.slice zV) f),(3,aL i),(0,rc (.slice zV) l)] [] h0
def sh (a:List Int)(b:List Int):Option Bool:=dB T B lf 97 (a,b)
def il (a:List Int)(b:List Int)(i:Int):Option Bool:=
 M1 97 0 19 [(5,aL i),(1,rc zV b),(0,rc zV a)] [] h0
def j0 (l:List ((List Int)×ByteArray×Unit)):Option (List ((List Int)×ByteArray×Unit)):=dB T B lf 98 l
def bF (out:Nat)(i:Int)(aj:H4)(pg:H8):Option (List ((List Int)×ByteArray×Unit)):=
 M1 98 0 70 [(4,aL i),(3,rc (.ref 8) out)] [] (hs [] [] [] [] aj [] [] [] pg [] [])
def dI (out:Nat)(i:Int)(k:Int)(aj:H4)(pg:H8):Option (List ((List Int)×ByteArray×Unit)):=
 M1 98 1 70 [(5,aL k),(4,aL i),(3,rc (.ref 8) out)] [] (hs [] [] [] [] aj [] [] [] pg [] [])
def kj (f:List ((List Int)×ByteArray×Unit))(i:Int):Option Int:=dB T B lf 99 (f,i)
def eA (f:List ((List Int)×ByteArray×Unit))(n:Int)(s:List Int):Option Int:=dB T B lf 100 (f,n,s)
def cA (f:List ((List Int)×ByteArray×Unit))(n:Int)(s:List Int)(i:Int):Option Int:=
 M1 100 0 22 [(7,aL i),(2,rc zV s),(1,aL n),(0,rc (.slice (.st (.pair zV (.pair (.str) (.unit))))) f)] [] h0
def gD (s:List Int)(k:Int):Option (List Int):=dB T B lf 101 (s,k)
def bR (s:List Int)(k:Int)(i:Int)(out:List Int):Option (List Int):=
 M2 101 0 24 [(6,aL i),(5,ro 5),(1,aL k),(0,rc zV s)] [(5,⟨3,zI,out⟩)] [] h0
def kl (a:ByteArray):Option Bool:=dB T B lf 102 a
def nD (a:ByteArray):Option Bool:=dB T B lf 103 a
def bW (a:ByteArray)(b:ByteArray):Option Int:=dB T B lf 104 (a,b)
def fz (a:ByteArray)(b:ByteArray):Option ByteArray:=dB T B lf 105 (a,b)
def bw (p:Bool)(x:List Int)(q:Bool)(y:List Int)(i:Int)(out:List Int):Option ByteArray:=
 M2 105 0 120 [(14,aL i),(13,ro 13),(12,rc zV y),(11,rc .bool q),(10,rc zV x),(9,rc .bool p)] [(13,⟨3,zI,out⟩)] [] h0
def dj (p:Bool)(x:List Int)(q:Bool)(y:List Int)(i:Int)(k:Int)(out:List Int):Option ByteArray:=
 M2 105 1 120 [(15,aL k),(14,aL i),(13,ro 13),(12,rc zV y),(11,rc .bool q),(10,rc zV x),(9,rc .bool p)] [(13,⟨3,zI,out⟩)] [] h0
def cB (p:Bool)(q:Bool)(i:Int)(out:List Int):Option ByteArray:=
 M2 105 2 120 [(16,aL i),(13,ro 13),(11,rc .bool q),(9,rc .bool p)] [(13,⟨3,zI,out⟩)] [] h0
def ax (a:ByteArray):Option (Bool×List Int):=dB T B lf 106 a
def cY (a:ByteArray)(minus:Bool)(i:Int)(d:List Int):Option (Bool×List Int):=
 M2 106 0 37 [(6,aL i),(5,ro 5),(4,rc .bool minus),(0,rc .str a)] [(5,⟨3,zI,d⟩)] [] h0
def aw (minus:Bool)(d:List Int):Option ByteArray:=dB T B lf 107 (minus,d)
def dM (d:List Int)(i:Int)(out:List Int):Option ByteArray:=
 M2 107 0 34 [(6,aL i),(5,ro 5),(1,rc zV d)] [(5,⟨5, .int .u8,out⟩)] [] h0
def zm (a:ByteArray):Option (((Bool×(List Int)×Unit)×(Bool×(List Int)×Unit)×Unit)×Bool):=dB T B lf 108 a
def nE (a:Bool×(List Int)×Unit)(b:Bool×(List Int)×Unit):Option (Bool×(List Int)×Unit):=dB T B lf 110 (a,b)
def dx (t:List Int)(t2:Int)(t3:Int)(out:List Int)(a:Bool)(a2:List Int)(b:Bool)(b2:List Int)(t4:Bool)(t5:List Int):Option (Bool×(List Int)×Unit):=
 M2 110 0 78 [(22,aL t3),(21,aL t2),(20,rc zU t),(5,ro 5),bx 4,bx 3,bx 2] [(5,⟨168, .int .u32,out⟩)] [(2,ce [⟨.bool,a⟩,⟨zU,a2⟩]),(3,ce [⟨.bool,b⟩,⟨zU,b2⟩]),(4,ce [⟨.bool,t4⟩,⟨zU,t5⟩])] h0
def fA (i:Int)(x:Int)(carry:Int)(t:List Int)(t2:Int)(t3:Int)(t4:List Int)(t5:Int)(t6:Int)(out:List Int)(a:Bool)(a2:List Int)(b:Bool)(b2:List Int)(t7:Bool)(t8:List Int):Option (Bool×(List Int)×Unit):=
 M2 110 1 78 [(30,aL t6),(29,aL t5),(28,rc zU t4),(22,aL t3),(21,aL t2),(20,rc zU t),(8,rc (.int .u64) carry),(7,rc (.int .u32) x),(6,aL i),(5,ro 5),bx 4,bx 3,bx 2] [(5,⟨168, .int .u32,out⟩)] [(2,ce [⟨.bool,a⟩,⟨zU,a2⟩]),(3,ce [⟨.bool,b⟩,⟨zU,b2⟩]),(4,ce [⟨.bool,t7⟩,⟨zU,t8⟩])] h0
def mI (s:ByteArray)(sep:ByteArray):Option (ByteArray×ByteArray×Bool):=dB T B lf 111 (s,sep)
def im (s:ByteArray)(oa:ByteArray):Option (ByteArray×Bool):=dB T B lf 112 (s,oa)
def jh (neg:Bool)(d:List Int):Option (Bool×(List Int)×Unit):=dB T B lf 113 (neg,d)
def w6 (a:List Int)(b:List Int):Option Int:=dB T B lf 114 (a,b)
def mV (a:List Int)(b:List Int)(i:Int):Option Int:=
 M1 114 0 41 [(5,aL i),(1,rc zU b),(0,rc zU a)] [] h0
def CO (x:Int)(y:Int):Option Int:=dB T B lf 115 (x,y)
def kx (x:Int)(y:Int):Option Int:=
 M1 115 0 12 [(1,aL y),(0,aL x)] [] h0
def Dd (d:List Int):Option Int:=dB T B lf 116 d
def pk (d:List Int)(n:Int)(i:Int):Option Int:=
 M1 116 0 21 [(4,aL i),(3,aL n),(0,rc zU d)] [] h0
def vM (a:List Int)(b:List Int):Option ((List Int)×List Int):=dB T B lf 117 (a,b)
def mW (d:List Int):Option (List Int):=dB T B lf 118 d
def mX (d:List Int):Option (List Int):=
 M1 118 0 21 [(0,rc zU d)] [] h0
def Fb (p:Int):Option (Int×Int):=dB T B lf 119 p
def ee (f:Int)(a:Int):Option Int:=dB T B lf 120 (f,a)
def ji (f:Int)(a:Int):Option Int:=dB T B lf 121 (f,a)
def mJ (p:Int)(l:List kn):Option Int:=dB T B lf 122 (p,l)
def fa (p:Int)(t:List kn)(t2:Int)(t3:Int):Option Int:=
 M1 122 0 21 [(10,aL t3),(9,aL t2),(8,rc (.slice zO) t),(0,aL p)] [] h0
def si (p:Int)(a:kn)(k:Int)(b:kn):Option kn:=dB T B lf 123 (p,a,k,b)
def iq (row:kn)(p:Int)(k:Int)(rest:List (Int×Pg×Unit)):Option kn:=
 LL T B lf 123 0 ⟨⟨36,[bx 9,bx 6,bx 4],[(10009, .box 9 0),(10006, .box 6 0),(10004, .box 4 0),(1000000000, .qA [⟨.fn,(197:Nat)⟩,⟨.bool,false⟩]),(1000000001, .qA [⟨.fn,(199:Nat)⟩,⟨.bool,true⟩])]⟩,[(9,⟨44, .st yT,row⟩)],[(4,ce [⟨zI,p⟩]),(6,ce [⟨zI,k⟩]),(9, .own 9)],h0,⟨.unit,()⟩,[⟨[zI, .st yT],rest⟩],T.sites 123⟩
def nF (a:List Int)(v:Int):Option Bool:=dB T B lf 134 (a,v)
def jl (a:List Int)(v:Int)(i:Int):Option Bool:=
 M1 134 0 18 [(5,aL i),(1,aL v),(0,rc zV a)] [] h0
def ir (l:List Int):Option ((List Int)×Int):=dB T B lf 135 l
def dJ (n:Int)(i:Int)(out:List Int):Option ((List Int)×Int):=
 M2 135 0 54 [(6,aL i),(5,aL n),(4,ro 4)] [(4,⟨3,zI,out⟩)] [] h0
def fe (n:Int)(i:Int)(k:Int)(out:List Int):Option ((List Int)×Int):=
 M2 135 1 54 [(7,aL k),(6,aL i),(5,aL n),(4,ro 4)] [(4,⟨3,zI,out⟩)] [] h0
def jm (s:List Int):Option (List (List Int)):=dB T B lf 136 s
def oc (s:List Int)(m:Int)(out:List (List Int)):Option (List (List Int)):=
 M2 136 0 36 [(4,aL m),(3,ro 3),(0,rc zV s)] [(3,⟨26,zV,out⟩)] [] h0
def fO (s:List Int)(m:Int)(i:Int)(out:List (List Int))(f:List Int):Option (List (List Int)):=
 M2 136 1 36 [(6,aL i),(5,ro 5),(4,aL m),(3,ro 3),(0,rc zV s)] [(3,⟨26,zV,out⟩),(5,⟨3,zI,f⟩)] [] h0
def cZ (s:List Int)(out:List (List Int))(m:Int):Option (List (List Int)):=
 M1 136 0 36 [(4,aL m),(3,rc (.slice zV) out),(0,rc zV s)] [] h0
def fg (s:List Int)(out:List (List Int))(m:Int)(i:Int)(f:List Int):Option (List (List Int)):=
 M2 136 1 36 [(6,aL i),(5,ro 5),(4,aL m),(3,rc (.slice zV) out),(0,rc zV s)] [(5,⟨3,zI,f⟩)] [] h0
def fh (l:List (List Int))(s:List Int):Option (List (List Int)):=dB T B lf 137 (l,s)
def iu (l:List (List Int))(s:List Int)(done:Bool)(i:Int)(out:List (List Int)):Option (List (List Int)):=
 M2 137 0 48 [(7,aL i),(6,rc .bool done),(5,ro 5),(1,rc zV s),(0,rc (.slice zV) l)] [(5,⟨26,zV,out⟩)] [] h0
def jn (n:ByteArray)(d:ByteArray):Option ByteArray:=dB T B lf 138 (n,d)
def bL (n:Int):Option ByteArray:=dB T B lf 139 n
def c5 (q:Int)(d:List Int):Option ByteArray:=
 M2 139 0 42 [(5,ro 5),(3,aL q)] [(5,⟨3,zI,d⟩)] [] h0
def c6 (n:Int)(d:List Int):Option ByteArray:=
 M2 139 1 42 [(6,ro 6),(0,aL n)] [(6,⟨3,zI,d⟩)] [] h0
def fB (s:List Int):Option Int:=dB T B lf 140 s
def dk (s:List Int)(i:Int):Option Int:=
 M1 140 0 45 [(3,aL i),(0,rc zV s)] [] h0
def dm (s:List Int)(i:Int):Option Int:=
 M1 140 1 45 [(4,aL i),(0,rc zV s)] [] h0
def oM (l:List (List Int))(s:List Int):Option Int:=dB T B lf 141 (l,s)
def fP (l:List (List Int))(s:List Int)(i:Int):Option Int:=
 M1 141 0 20 [(5,aL i),(1,rc zV s),(0,rc (.slice zV) l)] [] h0
def mY (l:List ((List Int)×ByteArray×Unit))(pg:H8)(aj:H4):Option ((Nat)×H8×H4):=dB T B lf 142 (l,(pg,aj))
def fi (l:List ((List Int)×ByteArray×Unit))(out:Nat)(i:Int)(aj:H4)(pg:H8):Option ((Nat)×H8×H4):=
 M1 142 0 28 [(4,aL i),(3,rc (.ref 8) out),(0,rc (.slice (.st (.pair zV (.pair (.str) (.unit))))) l)] [] (hs [] [] [] [] aj [] [] [] pg [] [])
def iI (a:ByteArray):Option Bool:=dB T B lf 143 a
def jo (a:ByteArray):Option Bool:=dB T B lf 144 a
def cC (s:ByteArray)(i:Int):Option Bool:=
 M1 144 0 53 [(4,aL i),(3,rc .str s)] [] h0
def dN (a:ByteArray)(b:ByteArray):Option ByteArray:=dB T B lf 145 (a,b)
def cn (x:ByteArray)(y:ByteArray):Option ByteArray:=
 M1 145 0 24 [(6,rc .str y),(5,rc .str x)] [] h0
def du (a:List Int)(b:List Int):Option Int:=dB T B lf 146 (a,b)
def dO (a:List Int)(b:List Int)(i:Int):Option Int:=
 M1 146 0 41 [(5,aL i),(1,rc zV b),(0,rc zV a)] [] h0
def dy (a:ByteArray):Option (Int×Bool):=dB T B lf 147 a
def dn (a:ByteArray)(n:Int)(i:Int):Option (Int×Bool):=
 M1 147 0 38 [(5,aL i),(4,aL n),(0,rc .str a)] [] h0
def bk (d:List Int):Option (List Int):=dB T B lf 148 d
def dP (d:List Int):Option (List Int):=
 M1 148 0 21 [(0,rc zV d)] [] h0
def lu (a:(Bool×(List Int)×Unit)×(Bool×(List Int)×Unit)×Unit):Option Bool:=dB T B lf 149 a
def iw (s:ByteArray)(substr:ByteArray):Option Int:=dB T B lf 150 (s,substr)
def fX (s:ByteArray)(oa:ByteArray):Option (ByteArray×Bool):=dB T B lf 151 (s,oa)
def tb (a:List Int)(b:Int):Option ((List Int)×Int):=dB T B lf 152 (a,b)
def ky (a:List Int)(b:Int)(rest:Int)(i:Int)(out:List Int):Option ((List Int)×Int):=
 M2 152 0 42 [(8,aL i),(7,rc (.int .u64) rest),(6,ro 6),(1,rc (.int .u32) b),(0,rc zU a)] [(6,⟨168, .int .u32,out⟩)] [] h0
def De (a:List Int)(b:List Int):Option ((List Int)×List Int):=dB T B lf 153 (a,b)
def fj (k:Int)(v:List Int)(n:Int)(j:Int)(q:List Int)(u:List Int):Option ((List Int)×List Int):=
 M2 153 0 239 [(10,aL j),(9,aL n),(8,rc zU v),(7,ro 7),(6,rc (.int .u32) k),(4,ro 4)] [(4,⟨168, .int .u32,q⟩),(7,⟨168, .int .u32,u⟩)] [] h0
def jT (k:Int)(v:List Int)(n:Int)(j:Int)(guess:Int)(rest:Int)(q:List Int)(u:List Int):Option ((List Int)×List Int):=
 M2 153 1 239 [(13,rc (.int .u64) rest),(12,rc (.int .u64) guess),(10,aL j),(9,aL n),(8,rc zU v),(7,ro 7),(6,rc (.int .u32) k),(4,ro 4)] [(4,⟨168, .int .u32,q⟩),(7,⟨168, .int .u32,u⟩)] [] h0
def gO (k:Int)(v:List Int)(n:Int)(j:Int)(guess:Int)(borrow:Int)(t:Int)(t2:Int)(q:List Int)(u:List Int):Option ((List Int)×List Int):=
 M2 153 2 239 [(124,aL t2),(123,aL t),(14,aL borrow),(12,rc (.int .u64) guess),(10,aL j),(9,aL n),(8,rc zU v),(7,ro 7),(6,rc (.int .u32) k),(4,ro 4)] [(4,⟨168, .int .u32,q⟩),(7,⟨168, .int .u32,u⟩)] [] h0
def kO (k:Int)(v:List Int)(n:Int)(j:Int)(guess:Int)(x:Int)(carry:Int)(t:Int)(t2:Int)(q:List Int)(u:List Int):Option ((List Int)×List Int):=
 M2 153 3 239 [(189,aL t2),(188,aL t),(18,rc (.int .u32) carry),(17,aL x),(12,rc (.int .u64) guess),(10,aL j),(9,aL n),(8,rc zU v),(7,ro 7),(6,rc (.int .u32) k),(4,ro 4)] [(4,⟨168, .int .u32,q⟩),(7,⟨168, .int .u32,u⟩)] [] h0
def kV (f:Int)(a:Int)(n:Int):Option Int:=dB T B lf 154 (f,a,n)
def dp (f:Int)(n:Int)(out:Int)(base:Int):Option Int:=
 M1 154 0 30 [(8,aL base),(7,aL out),(2,aL n),(0,aL f)] [] h0
def qF (a:kn)(b:kn):Option (kn×kn):=dB T B lf 155 (a,b)
def dq (a:ByteArray)(b:ByteArray):Option (ByteArray×ByteArray):=dB T B lf 161 (a,b)
def bf (b:ByteArray)(p:Bool)(x:List Int)(s:Bool)(y:List Int)(r:List Int)(i:Int)(q:List Int):Option (ByteArray×ByteArray):=
 M2 161 0 164 [(19,aL i),(18,rc zV r),(17,ro 17),(15,rc zV y),(14,rc .bool s),(13,rc zV x),(12,rc .bool p),(1,rc .str b)] [(17,⟨3,zI,q⟩)] [] h0
def bZ (b:ByteArray)(p:Bool)(x:List Int)(s:Bool)(y:List Int)(r:List Int)(i:Int)(k:Int)(q:List Int):Option (ByteArray×ByteArray):=
 M2 161 1 164 [(20,aL k),(19,aL i),(18,rc zV r),(17,ro 17),(15,rc zV y),(14,rc .bool s),(13,rc zV x),(12,rc .bool p),(1,rc .str b)] [(17,⟨3,zI,q⟩)] [] h0
def aE (b:ByteArray)(p:Bool)(s:Bool)(r:List Int)(i:Int)(q:List Int):Option (ByteArray×ByteArray):=
 M2 161 2 164 [(21,aL i),(18,rc zV r),(17,ro 17),(14,rc .bool s),(12,rc .bool p),(1,rc .str b)] [(17,⟨3,zI,q⟩)] [] h0
def eO (a:ByteArray):Option Int:=dB T B lf 162 a
def fQ (a:ByteArray):Option ByteArray:=dB T B lf 163 a
def lv (a:Bool×(List Int)×Unit):Option Bool:=dB T B lf 164 a
def fY (s:ByteArray)(c:Int):Option Int:=dB T B lf 165 (s,c)
def fZ (s:ByteArray)(oa:ByteArray):Option Bool:=dB T B lf 169 (s,oa)
def u5 (a:List Int)(k:Int):Option (List Int):=dB T B lf 170 (a,k)
def jA (k:Int)(carry:Int)(t:List Int)(t2:Int)(t3:Int)(out:List Int):Option (List Int):=
 M2 170 0 40 [(15,aL t3),(14,aL t2),(13,rc zU t),(6,rc (.int .u64) carry),(5,ro 5),(1,rc (.int .u32) k)] [(5,⟨168, .int .u32,out⟩)] [] h0
def mK (t:kn)(t2:kn):Option (List (Int×Pg×Unit)):=dB T B lf 171 ((),t,t2)
def dQ (t:kn)(t2:kn)(trace:List (Int×Pg×Unit)):Option (List (Int×Pg×Unit)):=
 M3 171 0 94 [bx 2,bx 1,(0, .Na)] [] [(1,ce [⟨zO,t⟩]),(2,ce [⟨zO,t2⟩])] h0 ⟨.slice (.pair zI (.pair (.st yT) (.unit))),trace⟩
def aV (a:List Int)(b:List Int):Option (List Int):=dB T B lf 173 (a,b)
def bB (a:List Int)(b:List Int)(borrow:Int)(i:Int)(out:List Int):Option (List Int):=
 M2 173 0 41 [(7,aL i),(6,aL borrow),(5,ro 5),(1,rc zV b),(0,rc zV a)] [(5,⟨3,zI,out⟩)] [] h0
def jq (a:ByteArray)(b:ByteArray):Option ByteArray:=dB T B lf 174 (a,b)
def gv (a:ByteArray)(b:ByteArray):Option ByteArray:=dB T B lf 175 (a,b)
def gP (a:Bool×(List Int)×Unit):Option Int:=dB T B lf 176 a
def dr (n:Int)(x:Int):Option Int:=
 M1 176 0 29 [(4,rc (.int .u32) x),(3,aL n)] [] h0
def ix (a:List Int)(b:List Int):Option (List Int):=dB T B lf 179 (a,b)
def eP (a:List Int)(b:List Int)(carry:Int)(i:Int)(out:List Int):Option (List Int):=
 M2 179 0 54 [(7,aL i),(6,aL carry),(5,ro 5),(1,rc zV b),(0,rc zV a)] [(5,⟨3,zI,out⟩)] [] h0
def mL (c:Db):Option Db:=dB T B lf 196 c
def j5 (t:Db):Option (List (Int×Unit)):=dB T B lf 197 ((),t)
def c7 (t:Int)(t2:Int)(trace:List (Int×Unit)):Option (List (Int×Unit)):=
 M3 197 0 15 [(7,aL t2),(6,aL t),(0, .Na)] [] [] h0 ⟨.slice (.pair zI (.unit)),trace⟩
def kW (c:Db):Option Db:=dB T B lf 198 c
def jr (t:Db):Option (List (Int×Unit)):=dB T B lf 199 ((),t)
def bT (d:Int)(t:Int)(t2:J0)(trace:List (Int×Unit)):Option (List (Int×Unit)):=
 M3 199 0 29 [(3,aL d),bx 1,(0, .Na)] [] [ch 1 t t2] h0 ⟨.slice (.pair zI (.unit)),trace⟩
def cp (d:Int)(t:J0)(t2:Int)(t3:Int)(t4:Int)(t5:J0)(trace:List (Int×Unit)):Option (List (Int×Unit)):=
 M3 199 1 29 [(13,aL t3),(12,aL t2),(11,rc zP t),(3,aL d),bx 1,(0, .Na)] [] [ch 1 t4 t5] h0 ⟨.slice (.pair zI (.unit)),trace⟩
def kP (c:Db)(cO:H2):Option ((Nat×Pg×Int)×H2):=dB T B lf 100045 ((c,(),()),cO)
def jU (c:Db)(cO:H2):Option ((Nat×Pg×Int)×H2):=dB T B lf 100145 ((c,(),()),cO)
def fR (c:Db)(cO:H2):Option ((Nat×Int×Int×Unit)×H2):=dB T B lf 100046 (((),c),cO)
def b4 (out:Nat)(t:Int)(t2:Int)(row:H2)(eg:List Int)(e:Bool)(c:Int)(c2:J0)(w:Int)(w2:Int)(cO:H2):Option ((Nat×Int×Int×Unit)×H2):=
 M2 100046 0 155 [(28,aL t2),(27,aL t),bx 8,bx 7,bx 5,(4,rc (.ref 3) out),bx 3,bx 2] [(7,⟨40, .qG (.st yT),row⟩),(8,⟨3,zI,eg⟩)] [(2,ce [⟨.fn,(197:Nat)⟩,⟨.bool,e⟩]),ch 3 c c2,(5,ce [⟨zI,w⟩,⟨zI,w2⟩]),(7, .own 7),(8, .own 8)] (s3 cO)
def ao (out:Nat)(aG:Nat)(row:H2)(eg:List Int)(e:Bool)(c:Int)(c2:J0)(w:Int)(w2:Int)(cO:H2)(rest:List (Int×Unit)):Option ((Nat×Int×Int×Unit)×H2):=
 LL T B lf 100046 1 ⟨⟨155,[bx 8,bx 7,bx 5,(4,rc (.ref 3) out),bx 3,bx 2],[(10008, .box 8 0),(10007, .box 7 0),(10005, .box 5 0),(10004,rc (.ref 3) aG),(10003, .box 3 0),(10002, .box 2 0),(1000000000, .qA [⟨.fn,(197:Nat)⟩,⟨.bool,false⟩]),(1000000001, .qA [⟨.fn,(199:Nat)⟩,⟨.bool,true⟩])]⟩,[(7,⟨40, .qG (.st yT),row⟩),(8,⟨3,zI,eg⟩)],[(2,ce [⟨.fn,(197:Nat)⟩,⟨.bool,e⟩]),ch 3 c c2,(5,ce [⟨zI,w⟩,⟨zI,w2⟩]),(7, .own 7),(8, .own 8)],(s3 cO),⟨.unit,()⟩,[⟨[zI],rest⟩],T.sites 100046⟩
def bg (out:Nat)(t:Int)(t2:Int)(t3:List Int)(w:Int)(w2:Int)(cO:H2):Option ((Nat×Int×Int×Unit)×H2):=
 M2 100046 3 155 [(139,aL t2),(138,aL t),(137,ro 8),bx 5,(4,rc (.ref 3) out)] [(8,⟨3,zI,t3⟩)] [(5,ce [⟨zI,w⟩,⟨zI,w2⟩])] (s3 cO)
def bC (j:Int)(x:kn)(low:Int)(is0:Bool)(out:Nat)(row:H2)(eg:List Int)(e:Bool)(c:Int)(c2:J0)(w:Int)(w2:Int)(cO:H2)(rest:List (Int×Unit)):Option ((Nat×Int×Int×Unit)×H2):=
 LL T B lf 100046 2 ⟨⟨155,[(13,rc .bool is0),(12,aL low),(11,rc zO x),(10,aL j),bx 8,bx 7,bx 5,bx 3],[(10008, .box 8 0),(10007, .box 7 0),(10005, .box 5 0),(10004,rc (.ref 3) out),(10003, .box 3 0),(10002, .box 2 0),(1000000000, .qA [⟨.fn,(197:Nat)⟩,⟨.bool,false⟩]),(1000000001, .qA [⟨.fn,(199:Nat)⟩,⟨.bool,true⟩])]⟩,[(7,⟨40, .qG (.st yT),row⟩),(8,⟨3,zI,eg⟩)],[(2,ce [⟨.fn,(197:Nat)⟩,⟨.bool,e⟩]),ch 3 c c2,(5,ce [⟨zI,w⟩,⟨zI,w2⟩]),(7, .own 7),(8, .own 8)],(s3 cO),⟨.unit,()⟩,[⟨[zI],rest⟩],T.sites 100046⟩
def b7 (c:Db)(cO:H2):Option ((Nat×Int×Int×Unit)×H2):=dB T B lf 100146 (((),c),cO)
def bM (out:Nat)(t:Int)(t2:Int)(row:H2)(eg:List Int)(e:Bool)(c:Int)(c2:J0)(w:Int)(w2:Int)(cO:H2):Option ((Nat×Int×Int×Unit)×H2):=
 M2 100146 0 155 [(28,aL t2),(27,aL t),bx 8,bx 7,bx 5,(4,rc (.ref 3) out),bx 3,bx 2] [(7,⟨40, .qG (.st yT),row⟩),(8,⟨3,zI,eg⟩)] [(2,ce [⟨.fn,(199:Nat)⟩,⟨.bool,e⟩]),ch 3 c c2,(5,ce [⟨zI,w⟩,⟨zI,w2⟩]),(7, .own 7),(8, .own 8)] (s3 cO)
def ai (out:Nat)(aG:Nat)(row:H2)(eg:List Int)(e:Bool)(c:Int)(c2:J0)(w:Int)(w2:Int)(cO:H2)(rest:List (Int×Unit)):Option ((Nat×Int×Int×Unit)×H2):=
 LL T B lf 100146 1 ⟨⟨155,[bx 8,bx 7,bx 5,(4,rc (.ref 3) out),bx 3,bx 2],[(10008, .box 8 0),(10007, .box 7 0),(10005, .box 5 0),(10004,rc (.ref 3) aG),(10003, .box 3 0),(10002, .box 2 0),(1000000000, .qA [⟨.fn,(197:Nat)⟩,⟨.bool,false⟩]),(1000000001, .qA [⟨.fn,(199:Nat)⟩,⟨.bool,true⟩])]⟩,[(7,⟨40, .qG (.st yT),row⟩),(8,⟨3,zI,eg⟩)],[(2,ce [⟨.fn,(199:Nat)⟩,⟨.bool,e⟩]),ch 3 c c2,(5,ce [⟨zI,w⟩,⟨zI,w2⟩]),(7, .own 7),(8, .own 8)],(s3 cO),⟨.unit,()⟩,[⟨[zI],rest⟩],T.sites 100146⟩
def bl (out:Nat)(t:Int)(t2:Int)(t3:List Int)(w:Int)(w2:Int)(cO:H2):Option ((Nat×Int×Int×Unit)×H2):=
 M2 100146 3 155 [(139,aL t2),(138,aL t),(137,ro 8),bx 5,(4,rc (.ref 3) out)] [(8,⟨3,zI,t3⟩)] [(5,ce [⟨zI,w⟩,⟨zI,w2⟩])] (s3 cO)
def bm (j:Int)(x:kn)(low:Int)(is0:Bool)(out:Nat)(row:H2)(eg:List Int)(e:Bool)(c:Int)(c2:J0)(w:Int)(w2:Int)(cO:H2)(rest:List (Int×Unit)):Option ((Nat×Int×Int×Unit)×H2):=
 LL T B lf 100146 2 ⟨⟨155,[(13,rc .bool is0),(12,aL low),(11,rc zO x),(10,aL j),bx 8,bx 7,bx 5,bx 3],[(10008, .box 8 0),(10007, .box 7 0),(10005, .box 5 0),(10004,rc (.ref 3) out),(10003, .box 3 0),(10002, .box 2 0),(1000000000, .qA [⟨.fn,(197:Nat)⟩,⟨.bool,false⟩]),(1000000001, .qA [⟨.fn,(199:Nat)⟩,⟨.bool,true⟩])]⟩,[(7,⟨40, .qG (.st yT),row⟩),(8,⟨3,zI,eg⟩)],[(2,ce [⟨.fn,(199:Nat)⟩,⟨.bool,e⟩]),ch 3 c c2,(5,ce [⟨zI,w⟩,⟨zI,w2⟩]),(7, .own 7),(8, .own 8)],(s3 cO),⟨.unit,()⟩,[⟨[zI],rest⟩],T.sites 100146⟩
def iY (x:kn)(n:Int)(aj:H4):Option ((Nat)×H4):=dB T B lf 102038 ((x,n),aj)
def c9 (x:kn)(out:Nat)(i:Int)(aj:H4):Option ((Nat)×H4):=
 M1 102038 0 28 [(6,aL i),(5,rc (.ref 4) out),(0,rc zO x)] [] (s4 aj)
def aT (v:Nat)(aj:H4):Option kn:=dB T B lf 100040 (v,aj)
def bN (v:Nat)(i:Int)(out:kn)(aj:H4):Option kn:=
 M2 100040 0 26 [(4,aL i),(3,ro 3),(0,rc (.ref 4) v)] [(3,⟨44, .st yT,out⟩)] [] [⟨42, .st yC,0,true,([]:H0)⟩,⟨42, .st yR,0,true,([]:H1)⟩,⟨44, .st yT,0,true,([]:H2)⟩,⟨58, .st yT,0,true,([]:H2)⟩,⟨3,zI,0,false,aj⟩,⟨95, .st (.pair yH (.pair (.ref 6) (.pair (.ref 4) (.pair (.ref 7) yT)))),1,true,([]:List (Option (List (Db×Nat×Nat×Nat×Int×Int×Unit))))⟩,⟨26, .qG zI,0,true,([]:List (Option H4))⟩,⟨4, .bool,0,true,([]:H7)⟩,⟨101, .st (.pair (.ref 4) (.pair (.str) (.unit))),0,true,([]:H8)⟩,⟨24, .st (.pair zI (.pair zP (.unit))),0,true,([]:H9)⟩,⟨26, .ref 4,0,true,([]:Wo)⟩]
def dR (s:kn)(f:Int):Option Bool:=dB T B lf 100070 (s,f)
def dS (s:kn)(f:Db×zqC):Option Bool:=dB T B lf 100071 (s,f)
def gQ (s:kn)(f:Int):Option Int:=dB T B lf 100109 (s,f)
def bO (s:kn)(f:Int)(t:Int)(t2:Int):Option Int:=
 M1 100109 0 19 [(8,aL t2),(7,aL t),(1, .fn 71 [.qA [⟨zI,f⟩]]),(0,rc zO s)] [] h0
def gR (s:kn)(f:Db×zqC):Option Int:=dB T B lf 100110 (s,f)
def bP (s:kn)(f:Int)(f2:J0)(f3:Int)(f4:ByteArray)(f5:kn)(t:Int)(t2:Int):Option Int:=
 M1 100110 0 19 [(8,aL t2),(7,aL t),(1, .fn 72 [.qA [⟨zI,f⟩,⟨zP,f2⟩], .qA [⟨zI,f3⟩,⟨.str,f4⟩,⟨zO,f5⟩]]),(0,rc zO s)] [] h0
end
noncomputable section
def tc (td:ae ed)(uq:ae gM)(WK:ae sc)(Df:ae ku)(F3:ae dR)(F4:ae dS)(WL:ae se)(Tv:ae nA):ae ed:=fun t t2 t3 c c2 last ajJ ajK ajL=>
 bif (decide (t3<t2)) then
  (idx t t3).bind fun v0=>
  (uq v0.2.1).bind fun r1=>
  bif (decide (v0.1<0)) then
   some 1
  else
   bif (decide (v0.1>4)) then
    some 1
   else
    bif (!r1.2) then
     some 1
    else
     (WK v0.2.1).bind fun r2=>
     bif (!r2) then
      some 1
     else
      (Df c v0.2.2.1).bind fun r3=>
      bif (r3 != 0) then
       some r3
      else
       (F3 v0.2.2.1 t3).bind fun r4=>
       bif r4 then
        some 7
       else
        (F4 v0.2.2.1 ((c,(c2,())),(v0.1,(v0.2.1,(v0.2.2.1,()))))).bind fun r5=>
        bif r5 then
         some 10
        else
         (WL (c,(c2,())) v0.2.2.1).bind fun r6=>
         bif (decide ((r6.length:Int)>0)) then
          some 11
         else
          bif (decide (t3>0)) then
           (Tv ((r1.1.1.1,(r1.1.1.2.1,())),((r1.1.2.1.1,(r1.1.2.1.2.1,())),())) ((last,(ajJ,())),((ajK,(ajL,())),()))).bind fun r7=>
           bif (decide (r7<0)) then
            some 6
           else
            td t t2 (IntKind.wrap .i64 (t3+1)) c c2 r1.1.1.1 r1.1.1.2.1 r1.1.2.1.1 r1.1.2.1.2.1
          else
           td t t2 (IntKind.wrap .i64 (t3+1)) c c2 r1.1.1.1 r1.1.1.2.1 r1.1.2.1.1 r1.1.2.1.2.1
 else
  some 0
theorem w7:E9 ed (tc ed gM sc ku dR dS se nA):=fun _ _ _ _ _ _ _ _ _=>l1 41 0
def F5 (td:ae ed)(w8:ae ln):ae jR:=fun c=>
 (w8 c.1).bind fun r0=>
 bif (!r0) then
  some 8
 else
  bif (decide ((c.2.1.length:Int)>1024)) then
   some 3
  else
   td c.2.1 (c.2.1.length:Int) 0 c.1 c.2.1 false ([]:List Int) false ([]:List Int)
theorem KA:E1 jR (F5 ed ln):=fun _=>e1 41
def Bl:ae qD:=fun t t2=>
 some (decide (t.1≥t2))
theorem GQ:E2 qD Bl:=fun _ _=>e1 71
def Bm:ae qE:=fun t t2 t3=>
 (idx t2.2.1 t.1).bind fun v0=>
 some (v0.1 != (IntKind.wrap .i64 (t3.1 - 1)))
theorem GR:E3 qE Bm:=fun _ _ _=>e1 72
def zn (w9:ae fu)(px:ae jg):ae lq:=fun t t2 t3 out c c2=>
 bif (decide (t3<t2)) then
  (idx t t3).bind fun v0=>
  (idx c2 v0.1).bind fun v1=>
  (px c out v0.2.1 v1.2.2.1).bind fun r2=>
  w9 r2.1 t t2 (IntKind.wrap .i64 (t3+1)) c c2
 else
  some out
theorem Fc:E6 lq (zn fu jg):=fun _ _ _ _ _ _=>l1 73 0
def mZ (w9:ae fu)(px:ae jg):ae fu:=fun out t t2 t3 c c2=>
 bif (decide (t3<t2)) then
  (idx t t3).bind fun v0=>
  (idx c2 v0.1).bind fun v1=>
  (px c out v0.2.1 v1.2.2.1).bind fun r2=>
  w9 r2.1 t t2 (IntKind.wrap .i64 (t3+1)) c c2
 else
  some out
theorem py:E6 fu (mZ fu jg):=fun _ _ _ _ _ _=>l1 73 0
def F6 (Rq:ae lq):ae se:=fun c x=>
 Rq x (x.length:Int) 0 ([]:kn) c.1 c.2.1
theorem KB:E2 se (F6 lq):=fun _ _=>e1 73
end
noncomputable section
def uP (Bn:ae jw)(Bo:ae hU)(uq:ae gM)(Tw:ae nz)(Rr:ae ll):ae jw:=fun last t t2 c c2 t3 t4 out aG hp1=>
 bif (decide (t2<t)) then
  (idx c2 (IntKind.wrap .i64 (last - t2))).bind fun v0=>
  (uq v0.2.1).bind fun r1=>
  (Tw ((r1.1.1.1,(r1.1.1.2.1,())),((r1.1.2.1.1,(r1.1.2.1.2.1,())),()))).bind fun r2=>
  (Rr ((r2.1.1,(r2.1.2.1,())),((r2.2.1.1,(r2.2.1.2.1,())),()))).bind fun r3=>
  (ag hp1 aG).bind fun v4=>
  (idx v4 t2).bind fun _=>
  (ag hp1 aG).bind fun v5=>
  (v5[t2.toNat]?).bind fun v6=>
  let e7:H1:=(ef hp1 aG (v5.set t2.toNat ((IntKind.wrap .i64 (4 - v0.1)),(v6.2.1,(v6.2.2.1,())))))
  (ag e7 aG).bind fun v8=>
  (idx v8 t2).bind fun _=>
  (ag e7 aG).bind fun v9=>
  (v9[t2.toNat]?).bind fun v10=>
  let WH:H1:=(ef e7 aG (v9.set t2.toNat (v10.1,(r3,(v10.2.2.1,())))))
  Bn last t (IntKind.wrap .i64 (t2+1)) c c2 t3 t4 out aG WH
 else
  Bo last last c c2 t3 t4 out aG hp1
theorem zo:E10 jw (uP jw hU gM nz ll):=fun _ _ _ _ _ _ _ _ _ _=>l1 18 0
def Jd (Tx:ae qC):ae hU:=fun last k c c2 t t2 out aG hp1=>
 bif (decide (k≥0)) then
  (idx c2 k).bind fun v0=>
  Tx last k v0.2.2.1 (v0.2.2.1.length:Int) 0 c c2 t t2 out aG hp1
 else
  (Rp (typed (s1 hp1) yH (.rv (.agg [⟨zI,out⟩,⟨.ref 1,aG⟩]))) (some 0)).bind fun v1=>
  some v1
theorem Ru:E9 hU (Jd qC):=fun _ _ _ _ _ _ _ _ _=>l1 18 1
def Je (oN:ae eX)(Bo:ae hU):ae qC:=fun last k t t2 t3 c c2 t4 t5 out aG hp1=>
 bif (decide (t3<t2)) then
  (idx t t3).bind fun v0=>
  (ag hp1 aG).bind fun v1=>
  (idx v1 (IntKind.wrap .i64 (last - v0.1))).bind fun _=>
  (ag hp1 aG).bind fun v2=>
  (v2[(IntKind.wrap .i64 (last - v0.1)).toNat]?).bind fun v3=>
  let e4:kn:=([((IntKind.wrap .i64 (last - k)),(v0.2.1,()))]:kn)
  (ag ([]:H2) v3.2.2.1).bind fun v5=>
  bif (aB 16 2 v5.length 1) then
  let e6:H2:=((cw ([]:H2) v3.2.2.1)++[some (v5++e4)])
  let e7:Nat:=((cw ([]:H2) v3.2.2.1).length+1:Nat)
  (ag hp1 aG).bind fun v8=>
  (v8[(IntKind.wrap .i64 (last - v0.1)).toNat]?).bind fun v9=>
  let Y9:H1:=(ef hp1 aG (v8.set (IntKind.wrap .i64 (last - v0.1)).toNat (v9.1,(v9.2.1,(e7,())))))
  oN last k t t2 (IntKind.wrap .i64 (t3+1)) c c2 t4 t5 out aG Y9 e6
  else none
 else
  Bo last (IntKind.wrap .i64 (k - 1)) c c2 t4 t5 out aG hp1
theorem Rv:E12 qC (Je eX hU):=fun _ _ _ _ _ _ _ _ _ _ _ _=>l1 18 2
def te (oN:ae eX)(Rw:ae ig):ae eX:=fun last k t t2 t3 c c2 t4 t5 out aG hp1 hp2=>
 bif (decide (t3<t2)) then
  (idx t t3).bind fun v0=>
  (ag hp1 aG).bind fun v1=>
  (idx v1 (IntKind.wrap .i64 (last - v0.1))).bind fun _=>
  (ag hp1 aG).bind fun v2=>
  (v2[(IntKind.wrap .i64 (last - v0.1)).toNat]?).bind fun v3=>
  let e4:kn:=([((IntKind.wrap .i64 (last - k)),(v0.2.1,()))]:kn)
  (ag hp2 v3.2.2.1).bind fun v5=>
  bif (aB 16 2 v5.length 1) then
  (ag hp1 aG).bind fun v6=>
  (v6[(IntKind.wrap .i64 (last - v0.1)).toNat]?).bind fun v7=>
  let e8:H1:=(ef hp1 aG (v6.set (IntKind.wrap .i64 (last - v0.1)).toNat (v7.1,(v7.2.1,(((cw hp2 v3.2.2.1).length+1:Nat),())))))
  oN last k t t2 (IntKind.wrap .i64 (t3+1)) c c2 t4 t5 out aG e8 ((cw hp2 v3.2.2.1)++[some (v5++e4)])
  else none
 else
  Rw last (IntKind.wrap .i64 (k - 1)) c c2 t4 t5 out aG hp1 hp2
theorem xd:E13 eX (te eX ig):=fun _ _ _ _ _ _ _ _ _ _ _ _ _=>l1 18 2
def tf (oN:ae eX):ae ig:=fun last k c c2 t t2 out aG hp1 hp2=>
 bif (decide (k≥0)) then
  (idx c2 k).bind fun v0=>
  oN last k v0.2.2.1 (v0.2.2.1.length:Int) 0 c c2 t t2 out aG hp1 hp2
 else
  (Rp (typed (hs [] hp1 hp2 [] [] [] [] [] [] [] []) yH (.rv (.agg [⟨zI,out⟩,⟨.ref 1,aG⟩]))) (some 0)).bind fun v1=>
  some v1
theorem xe:E10 ig (tf eX):=fun _ _ _ _ _ _ _ _ _ _=>l1 18 1
def It (Bn:ae jw)(ur:ae jR):ae pw:=fun c=>
 (ur (c.1,(c.2.1,()))).bind fun r0=>
 bif (r0 != 0) then
  (Rp (typed h0 yH (.rv (.agg [⟨zI,(0:Int)⟩,⟨.ref 0,(0:Nat)⟩]))) (some r0)).bind fun v1=>
  some v1
 else
  let e2:Int:=(IntKind.wrap .i64 ((c.2.1.length:Int) - 1))
  bif (ic 48 (c.2.1.length:Int) (c.2.1.length:Int)) then
  let e3:H1:=(([]:H1)++[some (List.replicate (c.2.1.length:Int).toNat (0,(ByteArray.empty,((0:Nat),()))))])
  let e4:Nat:=(([]:H1).length+1:Nat)
  (ag e3 e4).bind fun v5=>
  Bn e2 (v5.length:Int) 0 c.1 c.2.1 0 (0:Nat) c.1 e4 e3
  else none
theorem Np:E1 pw (It jw jR):=fun _=>e1 18
def zp (Tz:ae kP):ae gm:=fun c=>
 (Tz (c.1,(c.2.1,())) ([]:H2)).bind fun r0=>
 (Rp (typed (s3 r0.2) zO (.rv (.cv ⟨.ref 3,r0.1.1⟩))) (Rp (some (r0.1.2.1.1,(r0.1.2.1.2.1,()))) (some r0.1.2.2))).bind fun v1=>
 some v1
theorem Fe:E1 gm (zp kP):=fun _=>e1 20
def F7 (Rx:ae jU):ae kN:=fun c=>
 (Rx (c.1,(c.2.1,())) ([]:H2)).bind fun r0=>
 (Rp (typed (s3 r0.2) zO (.rv (.cv ⟨.ref 3,r0.1.1⟩))) (Rp (some (r0.1.2.1.1,(r0.1.2.1.2.1,()))) (some r0.1.2.2))).bind fun v1=>
 some v1
theorem KC:E1 kN (F7 jU):=fun _=>e1 24
def lQ (lR:ae bY)(PT:ae slices_SortFunc):ae bY:=fun l last t t2 t3 t4 t5 w w2 cO=>
 bif (decide (t3<t2)) then
  (ag cO t).bind fun v0=>
  (idx v0 t3).bind fun _=>
  (ag cO t).bind fun v1=>
  (v1[t3.toNat]?).bind fun v2=>
  (ag cO l).bind fun v3=>
  (idx v3 t3).bind fun _=>
  (ag cO l).bind fun v4=>
  (v4[t3.toNat]?).bind fun v5=>
  let e6:H2:=(ef cO l (v4.set t3.toNat ((IntKind.wrap .i64 (last - v2.2.1)),((IntKind.wrap .i64 (last - v2.1)),()))))
  bif (decide (v2.2.1<0)) then
   (ag e6 l).bind fun v7=>
   (idx v7 t3).bind fun _=>
   (ag e6 l).bind fun v8=>
   (v8[t3.toNat]?).bind fun v9=>
   let Y9:H2:=(ef e6 l (v8.set t3.toNat ((IntKind.wrap .i64 (last - v2.1)),((-1),()))))
   lR l last t t2 (IntKind.wrap .i64 (t3+1)) t4 t5 w w2 Y9
  else
   lR l last t t2 (IntKind.wrap .i64 (t3+1)) t4 t5 w w2 e6
 else
  (PT l cO).bind fun r11=>
  (Rp (typed (s3 r11.2) zO (rc (.ref 3) l)) (Rp (some (w,(w2,()))) (some 0))).bind fun v12=>
  some v12
theorem pz:E10 bY (lQ bY slices_SortFunc):=fun _ _ _ _ _ _ _ _ _ _=>l1 26 0
def u6 (lR:ae bY)(Iu:ae pw)(pA:ae b7):ae fx:=fun c=>
 (Iu (c.1,(c.2.1,()))).bind fun r0=>
 bif (r0.2 != 0) then
  some (([]:kn),(0,(0,())),r0.2)
 else
  (pA (r0.1.1,(r0.1.2.1,())) ([]:H2)).bind fun r1=>
  let e2:Int:=(IntKind.wrap .i64 ((c.2.1.length:Int) - 1))
  (ag r1.2 r1.1.1).bind fun v3=>
  lR r1.1.1 e2 r1.1.1 (v3.length:Int) 0 0 0 r1.1.2.1 r1.1.2.2.1 r1.2
theorem BP:E1 fx (u6 bY pw b7):=fun _=>e1 26
def xf:ae mL:=fun c=>
 some (c.1,(c.2.1,()))
theorem Dg:E1 mL xf:=fun _=>e1 196
def kz (pB:ae c7):ae c7:=fun t t2 trace=>
 bif (decide (t2<t)) then
  pB t (IntKind.wrap .i64 (t2+1)) (trace++[(t2,())])
 else
  some trace
theorem oO:E3 c7 (kz c7):=fun _ _ _=>l1 197 0
def tD (pB:ae c7):ae j5:=fun t=>
 pB (t.2.1.length:Int) 0 ([]:List (Int×Unit))
theorem AF:E1 j5 (tD c7):=fun _=>e1 197
def u7:ae kW:=fun c=>
 some (c.1,(c.2.1,()))
theorem BQ:E1 kW u7:=fun _=>e1 198
def j6 (j7:ae cp):ae bT:=fun d t t2 trace=>
 bif (decide (d≥0)) then
  j7 d t2 (t2.length:Int) 0 t t2 trace
 else
  some trace
theorem nG:E4 bT (j6 cp):=fun _ _ _ _=>l1 199 0
def j8 (j7:ae cp)(oP:ae bT):ae cp:=fun d t t2 t3 t4 t5 trace=>
 bif (decide (t3<t2)) then
  (idx t t3).bind fun v0=>
  bif (v0.1==d) then
   j7 d t t2 (IntKind.wrap .i64 (t3+1)) t4 t5 (trace++[(t3,())])
  else
   j7 d t t2 (IntKind.wrap .i64 (t3+1)) t4 t5 trace
 else
  oP (IntKind.wrap .i64 (d - 1)) t4 t5 trace
theorem nH:E7 cp (j8 cp bT):=fun _ _ _ _ _ _ _=>l1 199 1
def sj (oP:ae bT):ae jr:=fun t=>
 oP 4 t.1 t.2.1 ([]:List (Int×Unit))
theorem yD:E1 jr (sj bT):=fun _=>e1 199
def Bp (ur:ae jR)(JF:ae fR):ae kP:=fun c cO=>
 (ur (c.1,(c.2.1,()))).bind fun r0=>
 bif (r0 != 0) then
  some (((0:Nat),(0,(0,())),r0),cO)
 else
  (JF (c.1,(c.2.1,())) cO).bind fun r1=>
  some ((r1.1.1,(r1.1.2.1,(r1.1.2.2.1,())),(0:Int)),r1.2)
theorem GS:E2 kP (Bp jR fR):=fun _ _=>e1 100045
def zq (ur:ae jR)(pA:ae b7):ae jU:=fun c cO=>
 (ur (c.1,(c.2.1,()))).bind fun r0=>
 bif (r0 != 0) then
  some (((0:Nat),(0,(0,())),r0),cO)
 else
  (pA (c.1,(c.2.1,())) cO).bind fun r1=>
  some ((r1.1.1,(r1.1.2.1,(r1.1.2.2.1,())),(0:Int)),r1.2)
theorem Ff:E2 jU (zq jR b7):=fun _ _=>e1 100145
def jB (nI:ae b4)(aY:ae ao)(PU:ae mL)(Mr:ae j5):ae b4:=fun out t t2 row eg e c c2 w w2 cO=>
 bif (decide (t2<t)) then
  (idx eg t2).bind fun _=>
  (eg[t2.toNat]?).bind fun v0=>
  nI out t (IntKind.wrap .i64 (t2+1)) row (eg.set t2.toNat (-2)) e c c2 w w2 cO
 else
  (PU (c,(c2,()))).bind fun r1=>
  (Mr (r1.1,(r1.2.1,()))).bind fun r2=>
  aY out out row eg e c c2 w w2 cO r2
theorem mw:E11 b4 (jB b4 ao mL j5):=fun _ _ _ _ _ _ _ _ _ _ _=>l1 100046 0
def jC (jD:ae bg)(aY:ae ao)(jE:ae bC)(sn:ae mT)(kA:ae jf):ae ao:=fun out aG row eg e c c2 w w2 cO rest=>
 match rest with
 | []=>jD out (eg.length:Int) 0 eg w w2 cO
 |x0::x0s=>
  bif e then
   (idx row x0.1).bind fun _=>
   (row[x0.1.toNat]?).bind fun v1=>
   bif (!(Option.isNone v1)) then
    aY aG aG row eg e c c2 w (IntKind.wrap .i64 (w2+1)) cO x0s
   else
    (idx c2 x0.1).bind fun v2=>
    (sn v2.2.2.1).bind fun r3=>
    (kA r3).bind fun r4=>
    jE x0.1 r3 r4.1 r4.2 aG row eg e c c2 w w2 cO x0s
  else
   (idx c2 x0.1).bind fun v5=>
   (sn v5.2.2.1).bind fun r6=>
   (kA r6).bind fun r7=>
   jE x0.1 r6 r7.1 r7.2 aG row eg e c c2 w w2 cO x0s
theorem my:E11 ao (jC bg ao bC mT jf):=fun _ _ _ _ _ _ _ _ _ _ _=>l1 100046 1
def jF (jD:ae bg):ae bg:=fun out t t2 t3 w w2 cO=>
 bif (decide (t2<t)) then
  (idx t3 t2).bind fun _=>
  (t3[t2.toNat]?).bind fun v0=>
  bif (decide (v0>(-2))) then
   (ag cO out).bind fun v1=>
   bif (aB 16 2 v1.length 1) then
   let e2:H2:=((cw cO out)++[some (v1++([(t2,(v0,()))]:kn))])
   jD ((cw cO out).length+1:Nat) t (IntKind.wrap .i64 (t2+1)) t3 w w2 e2
   else none
  else
   jD out t (IntKind.wrap .i64 (t2+1)) t3 w w2 cO
 else
  some ((out,(w,(w2,()))),cO)
theorem mz:E7 bg (jF bg):=fun _ _ _ _ _ _ _=>l1 100046 3
def jG (jE:ae bC)(aY:ae ao)(N6:ae wZ)(Dh:ae aaa)(px:ae jg)(kA:ae jf):ae bC:=fun j x low is0 out row eg e c c2 w w2 cO rest=>
 bif is0 then
  (idx row low).bind fun _=>
  (row[low.toNat]?).bind fun v0=>
  bif (!(Option.isNone v0)) then
   (idx row low).bind fun _=>
   (row[low.toNat]?).bind fun v1=>
   let e2:Int:=(IntKind.wrap .i64 (((lst v1).length:Int) - 1))
   (idx (lst v1) e2).bind fun v3=>
   (N6 c v3.2.1).bind fun r4=>
   let e5:Int:=(IntKind.wrap .i64 ((x.length:Int) - 1))
   (idx x e5).bind fun v6=>
   let e7:Int:=(IntKind.wrap .i64 ((IntKind.wrap .i64 (0 - v6.2.1))*r4.1))
   (Dh c e7).bind fun r8=>
   (px c x r8 (lst v1)).bind fun r9=>
   (kA r9.1).bind fun Ph=>
   jE j r9.1 Ph.1 Ph.2 out row eg e c c2 (IntKind.wrap .i64 (w+1)) w2 cO rest
  else
   bif is0 then
    (idx row low).bind fun _=>
    (row[low.toNat]?).bind fun v11=>
    (wO [] (.qG (.st yT)) [⟨zO,x⟩]).bind fun v12=>
    (idx eg low).bind fun _=>
    (eg[low.toNat]?).bind fun v13=>
    aY out out (row.set low.toNat v12) (eg.set low.toNat j) e c c2 w w2 cO rest
   else
    (idx eg j).bind fun _=>
    (eg[j.toNat]?).bind fun v14=>
    bif (v14==(-2)) then
     (idx eg j).bind fun _=>
     (eg[j.toNat]?).bind fun v15=>
     aY out out row (eg.set j.toNat (-1)) e c c2 w w2 cO rest
    else
     aY out out row eg e c c2 w w2 cO rest
 else
  bif is0 then
   (idx row low).bind fun _=>
   (row[low.toNat]?).bind fun v16=>
   (wO [] (.qG (.st yT)) [⟨zO,x⟩]).bind fun v17=>
   (idx eg low).bind fun _=>
   (eg[low.toNat]?).bind fun v18=>
   aY out out (row.set low.toNat v17) (eg.set low.toNat j) e c c2 w w2 cO rest
  else
   (idx eg j).bind fun _=>
   (eg[j.toNat]?).bind fun v19=>
   bif (v19==(-2)) then
    (idx eg j).bind fun _=>
    (eg[j.toNat]?).bind fun v20=>
    aY out out row (eg.set j.toNat (-1)) e c c2 w w2 cO rest
   else
    aY out out row eg e c c2 w w2 cO rest
theorem mA:E14 bC (jG bC ao wZ aaa jg jf):=fun _ _ _ _ _ _ _ _ _ _ _ _ _ _=>l1 100046 2
def qH (nI:ae b4):ae fR:=fun c cO=>
 bif (ic 24 (c.2.1.length:Int) (c.2.1.length:Int)) then
 let e0:H2:=(List.replicate (c.2.1.length:Int).toNat (none:Option kn))
 bif (ic 8 (c.2.1.length:Int) (c.2.1.length:Int)) then
 let e1:List Int:=(List.replicate (c.2.1.length:Int).toNat 0)
 nI (0:Nat) (e1.length:Int) 0 e0 e1 false c.1 c.2.1 0 0 cO
 else none
 else none
theorem xg:E2 fR (qH b4):=fun _ _=>e1 100046
def iM (mB:ae bM)(aR:ae ai)(N7:ae kW)(KD:ae jr):ae bM:=fun out t t2 row eg e c c2 w w2 cO=>
 bif (decide (t2<t)) then
  (idx eg t2).bind fun _=>
  (eg[t2.toNat]?).bind fun v0=>
  mB out t (IntKind.wrap .i64 (t2+1)) row (eg.set t2.toNat (-2)) e c c2 w w2 cO
 else
  (N7 (c,(c2,()))).bind fun r1=>
  (KD (r1.1,(r1.2.1,()))).bind fun r2=>
  aR out out row eg e c c2 w w2 cO r2
theorem lx:E11 bM (iM bM ai kW jr):=fun _ _ _ _ _ _ _ _ _ _ _=>l1 100146 0
def iN (iO:ae bl)(aR:ae ai)(iP:ae bm)(sn:ae mT)(kA:ae jf):ae ai:=fun out aG row eg e c c2 w w2 cO rest=>
 match rest with
 | []=>iO out (eg.length:Int) 0 eg w w2 cO
 |x0::x0s=>
  bif e then
   (idx row x0.1).bind fun _=>
   (row[x0.1.toNat]?).bind fun v1=>
   bif (!(Option.isNone v1)) then
    aR aG aG row eg e c c2 w (IntKind.wrap .i64 (w2+1)) cO x0s
   else
    (idx c2 x0.1).bind fun v2=>
    (sn v2.2.2.1).bind fun r3=>
    (kA r3).bind fun r4=>
    iP x0.1 r3 r4.1 r4.2 aG row eg e c c2 w w2 cO x0s
  else
   (idx c2 x0.1).bind fun v5=>
   (sn v5.2.2.1).bind fun r6=>
   (kA r6).bind fun r7=>
   iP x0.1 r6 r7.1 r7.2 aG row eg e c c2 w w2 cO x0s
theorem ly:E11 ai (iN bl ai bm mT jf):=fun _ _ _ _ _ _ _ _ _ _ _=>l1 100146 1
def iQ (iO:ae bl):ae bl:=fun out t t2 t3 w w2 cO=>
 bif (decide (t2<t)) then
  (idx t3 t2).bind fun _=>
  (t3[t2.toNat]?).bind fun v0=>
  bif (decide (v0>(-2))) then
   (ag cO out).bind fun v1=>
   bif (aB 16 2 v1.length 1) then
   let e2:H2:=((cw cO out)++[some (v1++([(t2,(v0,()))]:kn))])
   iO ((cw cO out).length+1:Nat) t (IntKind.wrap .i64 (t2+1)) t3 w w2 e2
   else none
  else
   iO out t (IntKind.wrap .i64 (t2+1)) t3 w w2 cO
 else
  some ((out,(w,(w2,()))),cO)
theorem lz:E7 bl (iQ bl):=fun _ _ _ _ _ _ _=>l1 100146 3
def iR (iP:ae bm)(aR:ae ai)(N6:ae wZ)(Dh:ae aaa)(px:ae jg)(kA:ae jf):ae bm:=fun j x low is0 out row eg e c c2 w w2 cO rest=>
 bif is0 then
  (idx row low).bind fun _=>
  (row[low.toNat]?).bind fun v0=>
  bif (!(Option.isNone v0)) then
   (idx row low).bind fun _=>
   (row[low.toNat]?).bind fun v1=>
   let e2:Int:=(IntKind.wrap .i64 (((lst v1).length:Int) - 1))
   (idx (lst v1) e2).bind fun v3=>
   (N6 c v3.2.1).bind fun r4=>
   let e5:Int:=(IntKind.wrap .i64 ((x.length:Int) - 1))
   (idx x e5).bind fun v6=>
   let e7:Int:=(IntKind.wrap .i64 ((IntKind.wrap .i64 (0 - v6.2.1))*r4.1))
   (Dh c e7).bind fun r8=>
   (px c x r8 (lst v1)).bind fun r9=>
   (kA r9.1).bind fun Ph=>
   iP j r9.1 Ph.1 Ph.2 out row eg e c c2 (IntKind.wrap .i64 (w+1)) w2 cO rest
  else
   bif is0 then
    (idx row low).bind fun _=>
    (row[low.toNat]?).bind fun v11=>
    (wO [] (.qG (.st yT)) [⟨zO,x⟩]).bind fun v12=>
    (idx eg low).bind fun _=>
    (eg[low.toNat]?).bind fun v13=>
    aR out out (row.set low.toNat v12) (eg.set low.toNat j) e c c2 w w2 cO rest
   else
    (idx eg j).bind fun _=>
    (eg[j.toNat]?).bind fun v14=>
    bif (v14==(-2)) then
     (idx eg j).bind fun _=>
     (eg[j.toNat]?).bind fun v15=>
     aR out out row (eg.set j.toNat (-1)) e c c2 w w2 cO rest
    else
     aR out out row eg e c c2 w w2 cO rest
 else
  bif is0 then
   (idx row low).bind fun _=>
   (row[low.toNat]?).bind fun v16=>
   (wO [] (.qG (.st yT)) [⟨zO,x⟩]).bind fun v17=>
   (idx eg low).bind fun _=>
   (eg[low.toNat]?).bind fun v18=>
   aR out out (row.set low.toNat v17) (eg.set low.toNat j) e c c2 w w2 cO rest
  else
   (idx eg j).bind fun _=>
   (eg[j.toNat]?).bind fun v19=>
   bif (v19==(-2)) then
    (idx eg j).bind fun _=>
    (eg[j.toNat]?).bind fun v20=>
    aR out out row (eg.set j.toNat (-1)) e c c2 w w2 cO rest
   else
    aR out out row eg e c c2 w w2 cO rest
theorem lA:E14 bm (iR bm ai wZ aaa jg jf):=fun _ _ _ _ _ _ _ _ _ _ _ _ _ _=>l1 100146 2
def pC (mB:ae bM):ae b7:=fun c cO=>
 bif (ic 24 (c.2.1.length:Int) (c.2.1.length:Int)) then
 let e0:H2:=(List.replicate (c.2.1.length:Int).toNat (none:Option kn))
 bif (ic 8 (c.2.1.length:Int) (c.2.1.length:Int)) then
 let e1:List Int:=(List.replicate (c.2.1.length:Int).toNat 0)
 mB (0:Nat) (e1.length:Int) 0 e0 e1 true c.1 c.2.1 0 0 cO
 else none
 else none
theorem vN:E2 b7 (pC bM):=fun _ _=>e1 100146
end
noncomputable section
def rM (rN:ae gu):ae gu:=fun p c t t2 t3=>
 bif (decide (t3<t2)) then
  (idx t t3).bind fun v0=>
  bif (decide (v0.1<0)) then
   some 1
  else
   bif (decide (v0.1≥1024)) then
    some 1
   else
    bif (decide (v0.2.1<1)) then
     some 1
    else
     bif (decide (v0.2.1≥p)) then
      some 1
     else
      bif (decide (t3>0)) then
       (idx c (IntKind.wrap .i64 (t3 - 1))).bind fun v1=>
       bif (decide (v0.1≤v1.1)) then
        some 6
       else
        rN p c t t2 (IntKind.wrap .i64 (t3+1))
      else
       rN p c t t2 (IntKind.wrap .i64 (t3+1))
 else
  some 0
theorem u9:E5 gu (rM gu):=fun _ _ _ _ _=>l1 69 0
def Di (rN:ae gu)(w8:ae ln):ae ku:=fun p c=>
 (w8 p).bind fun r0=>
 bif (!r0) then
  some 8
 else
  rN p c c (c.length:Int) 0
theorem Jf:E2 ku (Di gu ln):=fun _ _=>e1 69
def Iv:ae jf:=fun c=>
 bif ((c.length:Int)==0) then
  some (0,false)
 else
  let e0:Int:=(IntKind.wrap .i64 ((c.length:Int) - 1))
  (idx c e0).bind fun v1=>
  some (v1.1,true)
theorem Nq:E1 jf Iv:=fun _=>e1 85
def Iw (PW:ae mJ)(Dh:ae aaa)(WM:ae si):ae jg:=fun p a k b=>
 (PW p ([a,b]:List kn)).bind fun r0=>
 bif (r0 != 0) then
  some (([]:kn),r0)
 else
  (Dh p k).bind fun r1=>
  (WM p a r1 b).bind fun r2=>
  some (r2,(0:Int))
theorem Nr:E4 jg (Iw mJ aaa si):=fun _ _ _ _=>e1 87
def jV (so:ae fa)(Df:ae ku):ae fa:=fun p t t2 t3=>
 bif (decide (t3<t2)) then
  (idx t t3).bind fun v0=>
  (Df p v0).bind fun r1=>
  bif (r1 != 0) then
   some r1
  else
   so p t t2 (IntKind.wrap .i64 (t3+1))
 else
  some 0
theorem lS:E4 fa (jV fa ku):=fun _ _ _ _=>l1 122 0
def xi (so:ae fa):ae mJ:=fun p l=>
 so p l (l.length:Int) 0
theorem Dj:E2 mJ (xi fa):=fun _ _=>e1 122
def tg (th:ae iq):ae iq:=fun row p k rest=>
 match rest with
 | []=>some row
 |x0::x0s=>
  let e1:Int:=(IntKind.wrap .i64 (x0.2.1.1+(IntKind.wrap .i64 (k*x0.2.1.2.1))))
  bif (!(p==0)) then
  bif ((e1.tmod p) != 0) then
   let e2:kn:=([(x0.1,((e1.tmod p),()))]:kn)
   bif (aB 16 2 row.length 1) then
   th (row++e2) p k x0s
   else none
  else
   th row p k x0s
  else none
theorem xj:E4 iq (tg iq):=fun _ _ _ _=>l1 123 0
def F8 (th:ae iq)(TA:ae qF)(PX:ae mK):ae si:=fun p a k b=>
 (TA a b).bind fun r0=>
 (PX r0.1 r0.2).bind fun r1=>
 th ([]:kn) p k r1
theorem KE:E4 si (F8 iq qF mK):=fun _ _ _ _=>e1 123
def Bq:ae qF:=fun a b=>
 some (a,b)
theorem GU:E2 qF Bq:=fun _ _=>e1 155
def dK (ay:ae dQ):ae dQ:=fun t t2 trace=>
 bif (decide ((t.length:Int)>0)) then
  bif ((t2.length:Int)==0) then
   (idx t 0).bind fun v0=>
   (idx t 0).bind fun v1=>
   bif (dW t.length 1 (t.length:Int)) then
   let e2:List (Int×Pg×Unit):=(trace++[(v0.1,((v1.2.1,(0,())),()))])
   ay (cut t 1 (t.length:Int)) t2 e2
   else none
  else
   bif (decide ((t.length:Int)>0)) then
    (idx t 0).bind fun v3=>
    (idx t2 0).bind fun v4=>
    bif (decide (v3.1<v4.1)) then
     (idx t 0).bind fun v5=>
     (idx t 0).bind fun v6=>
     bif (dW t.length 1 (t.length:Int)) then
     let e7:List (Int×Pg×Unit):=(trace++[(v5.1,((v6.2.1,(0,())),()))])
     ay (cut t 1 (t.length:Int)) t2 e7
     else none
    else
     bif ((t.length:Int)==0) then
      (idx t2 0).bind fun v8=>
      (idx t2 0).bind fun v9=>
      bif (dW t2.length 1 (t2.length:Int)) then
      let Y9:List (Int×Pg×Unit):=(trace++[(v8.1,((0,(v9.2.1,())),()))])
      ay t (cut t2 1 (t2.length:Int)) Y9
      else none
     else
      (idx t2 0).bind fun v11=>
      (idx t 0).bind fun v12=>
      bif (decide (v11.1<v12.1)) then
       (idx t2 0).bind fun v13=>
       (idx t2 0).bind fun v14=>
       bif (dW t2.length 1 (t2.length:Int)) then
       let e15:List (Int×Pg×Unit):=(trace++[(v13.1,((0,(v14.2.1,())),()))])
       ay t (cut t2 1 (t2.length:Int)) e15
       else none
      else
       (idx t 0).bind fun v16=>
       (idx t 0).bind fun v17=>
       (idx t2 0).bind fun v18=>
       bif (dW t.length 1 (t.length:Int)) then
       bif (dW t2.length 1 (t2.length:Int)) then
       let e19:List (Int×Pg×Unit):=(trace++[(v16.1,((v17.2.1,(v18.2.1,())),()))])
       ay (cut t 1 (t.length:Int)) (cut t2 1 (t2.length:Int)) e19
       else none
       else none
   else
    bif ((t.length:Int)==0) then
     (idx t2 0).bind fun v20=>
     (idx t2 0).bind fun v21=>
     bif (dW t2.length 1 (t2.length:Int)) then
     let e22:List (Int×Pg×Unit):=(trace++[(v20.1,((0,(v21.2.1,())),()))])
     ay t (cut t2 1 (t2.length:Int)) e22
     else none
    else
     (idx t2 0).bind fun v23=>
     (idx t 0).bind fun v24=>
     bif (decide (v23.1<v24.1)) then
      (idx t2 0).bind fun v25=>
      (idx t2 0).bind fun v26=>
      bif (dW t2.length 1 (t2.length:Int)) then
      let e27:List (Int×Pg×Unit):=(trace++[(v25.1,((0,(v26.2.1,())),()))])
      ay t (cut t2 1 (t2.length:Int)) e27
      else none
     else
      (idx t 0).bind fun v28=>
      (idx t 0).bind fun v29=>
      (idx t2 0).bind fun v30=>
      bif (dW t.length 1 (t.length:Int)) then
      bif (dW t2.length 1 (t2.length:Int)) then
      let e31:List (Int×Pg×Unit):=(trace++[(v28.1,((v29.2.1,(v30.2.1,())),()))])
      ay (cut t 1 (t.length:Int)) (cut t2 1 (t2.length:Int)) e31
      else none
      else none
 else
  bif (decide ((t2.length:Int)>0)) then
   bif ((t2.length:Int)==0) then
    (idx t 0).bind fun v32=>
    (idx t 0).bind fun v33=>
    bif (dW t.length 1 (t.length:Int)) then
    let e34:List (Int×Pg×Unit):=(trace++[(v32.1,((v33.2.1,(0,())),()))])
    ay (cut t 1 (t.length:Int)) t2 e34
    else none
   else
    bif (decide ((t.length:Int)>0)) then
     (idx t 0).bind fun v35=>
     (idx t2 0).bind fun v36=>
     bif (decide (v35.1<v36.1)) then
      (idx t 0).bind fun v37=>
      (idx t 0).bind fun v38=>
      bif (dW t.length 1 (t.length:Int)) then
      let e39:List (Int×Pg×Unit):=(trace++[(v37.1,((v38.2.1,(0,())),()))])
      ay (cut t 1 (t.length:Int)) t2 e39
      else none
     else
      bif ((t.length:Int)==0) then
       (idx t2 0).bind fun v40=>
       (idx t2 0).bind fun v41=>
       bif (dW t2.length 1 (t2.length:Int)) then
       let e42:List (Int×Pg×Unit):=(trace++[(v40.1,((0,(v41.2.1,())),()))])
       ay t (cut t2 1 (t2.length:Int)) e42
       else none
      else
       (idx t2 0).bind fun v43=>
       (idx t 0).bind fun v44=>
       bif (decide (v43.1<v44.1)) then
        (idx t2 0).bind fun v45=>
        (idx t2 0).bind fun v46=>
        bif (dW t2.length 1 (t2.length:Int)) then
        let e47:List (Int×Pg×Unit):=(trace++[(v45.1,((0,(v46.2.1,())),()))])
        ay t (cut t2 1 (t2.length:Int)) e47
        else none
       else
        (idx t 0).bind fun v48=>
        (idx t 0).bind fun v49=>
        (idx t2 0).bind fun v50=>
        bif (dW t.length 1 (t.length:Int)) then
        bif (dW t2.length 1 (t2.length:Int)) then
        let e51:List (Int×Pg×Unit):=(trace++[(v48.1,((v49.2.1,(v50.2.1,())),()))])
        ay (cut t 1 (t.length:Int)) (cut t2 1 (t2.length:Int)) e51
        else none
        else none
    else
     bif ((t.length:Int)==0) then
      (idx t2 0).bind fun v52=>
      (idx t2 0).bind fun v53=>
      bif (dW t2.length 1 (t2.length:Int)) then
      let e54:List (Int×Pg×Unit):=(trace++[(v52.1,((0,(v53.2.1,())),()))])
      ay t (cut t2 1 (t2.length:Int)) e54
      else none
     else
      (idx t2 0).bind fun v55=>
      (idx t 0).bind fun v56=>
      bif (decide (v55.1<v56.1)) then
       (idx t2 0).bind fun v57=>
       (idx t2 0).bind fun v58=>
       bif (dW t2.length 1 (t2.length:Int)) then
       let e59:List (Int×Pg×Unit):=(trace++[(v57.1,((0,(v58.2.1,())),()))])
       ay t (cut t2 1 (t2.length:Int)) e59
       else none
      else
       (idx t 0).bind fun v60=>
       (idx t 0).bind fun v61=>
       (idx t2 0).bind fun v62=>
       bif (dW t.length 1 (t.length:Int)) then
       bif (dW t2.length 1 (t2.length:Int)) then
       let e63:List (Int×Pg×Unit):=(trace++[(v60.1,((v61.2.1,(v62.2.1,())),()))])
       ay (cut t 1 (t.length:Int)) (cut t2 1 (t2.length:Int)) e63
       else none
       else none
  else
   some trace
theorem eI:E3 dQ (dK dQ):=fun _ _ _=>l1 171 0
def xk (ay:ae dQ):ae mK:=fun t t2=>
 ay t t2 ([]:List (Int×Pg×Unit))
theorem Dk:E2 mK (xk dQ):=fun _ _=>e1 171
end
noncomputable section
def uQ (qy:ae jy):ae jy:=fun p t=>
 bif (decide (t<16)) then
  bif (decide (t>1)) then
   bif (!(t==0)) then
   bif ((p.tmod t)==0) then
    bif (p != t) then
     some false
    else
     qy p (IntKind.wrap .i64 (t+1))
   else
    qy p (IntKind.wrap .i64 (t+1))
   else none
  else
   qy p (IntKind.wrap .i64 (t+1))
 else
  bif (decide (p>1)) then
   some (decide (p≤251))
  else
   some false
theorem zr:E2 jy (uQ jy):=fun _ _=>l1 67 0
def Ix (qy:ae jy):ae ln:=fun p=>
 qy p 0
theorem Ns:E1 ln (Ix jy):=fun _=>e1 67
def N8 (Ry:ae Fb)(na:ae ee)(KF:ae ji):ae wZ:=fun p a=>
 (Ry p).bind fun r0=>
 bif (r0.2 != 0) then
  some (0,r0.2)
 else
  (na r0.1 a).bind fun r1=>
  bif (r1==0) then
   some (0,(9:Int))
  else
   (KF r0.1 a).bind fun r2=>
   some (r2,(0:Int))
theorem SN:E2 wZ (N8 Fb ee ji):=fun _ _=>e1 86
def N9 (Ry:ae Fb)(na:ae ee):ae aaa:=fun p a=>
 (Ry p).bind fun r0=>
 bif (r0.2 != 0) then
  some 0
 else
  (na r0.1 a).bind fun r1=>
  some r1
theorem SO:E2 aaa (N9 Fb ee):=fun _ _=>e1 88
def L9 (w8:ae ln):ae Fb:=fun p=>
 (w8 p).bind fun r0=>
 bif (!r0) then
  some (0,(8:Int))
 else
  some (p,(0:Int))
theorem Oa:E1 Fb (L9 ln):=fun _=>e1 119
def xl:ae ee:=fun f a=>
 bif (!(f==0)) then
 bif (!(f==0)) then
 some ((IntKind.wrap .i64 ((a.tmod f)+f)).tmod f)
 else none
 else none
theorem Dl:E2 ee xl:=fun _ _=>e1 120
def sq (Ob:ae kV):ae ji:=fun f a=>
 (Ob f a (IntKind.wrap .i64 (f - 2))).bind fun r0=>
 some r0
theorem yE:E2 ji (sq kV):=fun _ _=>e1 121
def qI (lT:ae dp):ae dp:=fun f n out base=>
 bif (decide (n>0)) then
  bif ((n.tmod 2)==1) then
   bif (!(f==0)) then
   bif (!(f==0)) then
   lT f (IntKind.wrap .i64 (n.tdiv 2)) ((IntKind.wrap .i64 (out*base)).tmod f) ((IntKind.wrap .i64 (base*base)).tmod f)
   else none
   else none
  else
   bif (!(f==0)) then
   lT f (IntKind.wrap .i64 (n.tdiv 2)) out ((IntKind.wrap .i64 (base*base)).tmod f)
   else none
 else
  some out
theorem xm:E4 dp (qI dp):=fun _ _ _ _=>l1 154 0
def va (lT:ae dp)(na:ae ee):ae kV:=fun f a n=>
 (na f a).bind fun r0=>
 lT f n 1 r0
theorem BR:E3 kV (va dp ee):=fun _ _ _=>e1 154
end
noncomputable section
def z6 (WN:ae sf)(Vo:ae Dc)(uv:ae wY)(aac:ae ik)(mM:ae gp)(TB:ae nB):ae gM:=fun a=>
 (WN a (bs [47])).bind fun r0=>
 (Vo r0.1).bind fun r1=>
 bif (!r1.2) then
  (uv 1).bind fun r2=>
  some (((r1.1.1,(r1.1.2.1,())),((r2.1,(r2.2.1,())),())),r1.2)
 else
  bif (!r0.2.2) then
   (uv 1).bind fun r3=>
   some (((r1.1.1,(r1.1.2.1,())),((r3.1,(r3.2.1,())),())),r1.2)
  else
   (Vo r0.2.1).bind fun r4=>
   bif (!r4.2) then
    some (((false,(([]:List Int),())),((false,(([]:List Int),())),())),false)
   else
    (aac (r1.1.1,(r1.1.2.1,()))).bind fun r5=>
    bif (r5==0) then
     some (((false,(([]:List Int),())),((false,(([]:List Int),())),())),false)
    else
     (uv 1).bind fun r6=>
     (mM (r4.1.1,(r4.1.2.1,())) (r6.1,(r6.2.1,()))).bind fun r7=>
     bif (decide (r7≤0)) then
      some (((false,(([]:List Int),())),((false,(([]:List Int),())),())),false)
     else
      (TB (r1.1.1,(r1.1.2.1,())) (r4.1.1,(r4.1.2.1,()))).bind fun r8=>
      (uv 1).bind fun r9=>
      (mM (r8.1,(r8.2.1,())) (r9.1,(r9.2.1,()))).bind fun Ph=>
      bif (Ph != 0) then
       some (((false,(([]:List Int),())),((false,(([]:List Int),())),())),false)
      else
       some (((r1.1.1,(r1.1.2.1,())),((r4.1.1,(r4.1.2.1,())),())),true)
theorem Dm:E1 gM (z6 sf Dc wY ik gp nB):=fun _=>e1 42
def Br (TC:ae nC):ae nz:=fun a=>
 (TC (a.1.1,(a.1.2.1,()))).bind fun r0=>
 some ((r0.1,(r0.2.1,())),((a.2.1.1,(a.2.1.2.1,())),()))
theorem GV:E1 nz (Br nC):=fun _=>e1 43
def aad (uR:ae jz)(uv:ae wY)(mM:ae gp)(zv:ae lr):ae ll:=fun a=>
 (uR ((a.1.1,(a.1.2.1,())),((a.2.1.1,(a.2.1.2.1,())),()))).bind fun r0=>
 (uv 1).bind fun r1=>
 (mM (r0.1,(r0.2.1,())) (r1.1,(r1.2.1,()))).bind fun r2=>
 bif (r2 != 0) then
  (zv (a.1.1,(a.1.2.1,()))).bind fun r3=>
  bif (Nat.ble (r3.size+(bs [47]).size) 9223372036854775807) then
  (zv (r0.1,(r0.2.1,()))).bind fun r4=>
  bif (Nat.ble ((r3++(bs [47])).size+r4.size) 9223372036854775807) then
  some ((r3++(bs [47]))++r4)
  else none
  else none
 else
  (zv (a.1.1,(a.1.2.1,()))).bind fun r5=>
  some r5
theorem Fg:E1 ll (aad jz wY gp lr):=fun _=>e1 44
def Bs (uR:ae jz)(Jg:ae nE)(mM:ae gp):ae nA:=fun a b=>
 (uR ((b.1.1,(b.1.2.1,())),((b.2.1.1,(b.2.1.2.1,())),()))).bind fun r0=>
 (Jg (a.1.1,(a.1.2.1,())) (r0.1,(r0.2.1,()))).bind fun r1=>
 (uR ((a.1.1,(a.1.2.1,())),((a.2.1.1,(a.2.1.2.1,())),()))).bind fun r2=>
 (Jg (b.1.1,(b.1.2.1,())) (r2.1,(r2.2.1,()))).bind fun r3=>
 (mM (r1.1,(r1.2.1,())) (r3.1,(r3.2.1,()))).bind fun r4=>
 some r4
theorem GW:E2 nA (Bs jz nE gp):=fun _ _=>e1 74
def z7 (F9:ae mS)(xn:ae jh):ae jS:=fun s neg N5 d t t2=>
 bif (decide (N5>0)) then
  let e0:Int:=(bif decide ((IntKind.wrap .i64 (N5 - 9))>0) then (IntKind.wrap .i64 (N5 - 9)) else 0)
  bif (dW s.size e0 N5) then
  bif (Nat.ble (s.extract e0.toNat N5.toNat).size 140737488355328) then
  let e1:Int:=((bytesOf (s.extract e0.toNat N5.toNat)).length:Int)
  F9 s neg N5 0 (bytesOf (s.extract e0.toNat N5.toNat)) e1 0 d t t2
  else none
  else none
 else
  (xn neg d).bind fun r2=>
  some ((r2.1,(r2.2.1,())),true)
theorem Dp:E6 jS (z7 mS jh):=fun _ _ _ _ _ _=>l1 76 0
def z8 (F9:ae mS)(Aa:ae jS):ae mS:=fun s neg N5 x t t2 t3 d t4 t5=>
 bif (decide (t3<t2)) then
  (idx t t3).bind fun v0=>
  bif (decide (v0<48)) then
   some ((false,(([]:List Int),())),false)
  else
   bif (decide (v0>57)) then
    some ((false,(([]:List Int),())),false)
   else
    let e1:Int:=(IntKind.wrap .u32 (IntKind.wrap .u8 (v0 - 48)))
    let e2:Int:=(IntKind.wrap .u32 ((IntKind.wrap .u32 (10*x))+e1))
    F9 s neg N5 e2 t t2 (IntKind.wrap .i64 (t3+1)) d t4 t5
 else
  bif (aB 4 1 d.length 1) then
  Aa s neg (IntKind.wrap .i64 (N5 - 9)) (d++([x]:List Int)) t4 t5
  else none
theorem Dq:E10 mS (z8 mS jS):=fun _ _ _ _ _ _ _ _ _ _=>l1 76 1
def Od (Aa:ae jS)(Ms:ae im):ae Dc:=fun a=>
 (Ms a (bs [45])).bind fun r0=>
 bif (r0.1.toList==ByteArray.empty.toList) then
  some ((false,(([]:List Int),())),false)
 else
  (Bi r0.1 0).bind fun v1=>
  bif (v1==48) then
   bif (decide ((r0.1.size:Int)>1)) then
    some ((false,(([]:List Int),())),false)
   else
    bif r0.2 then
     some ((false,(([]:List Int),())),false)
    else
     Aa r0.1 r0.2 (r0.1.size:Int) ([]:List Int) false ([]:List Int)
  else
   Aa r0.1 r0.2 (r0.1.size:Int) ([]:List Int) false ([]:List Int)
theorem SP:E1 Dc (Od jS im):=fun _=>e1 76
def Fh (Fj:ae ta):ae ta:=fun u neg d t t2=>
 bif (decide (u>0)) then
  let e0:List Int:=([(IntKind.wrap .u32 (u.tmod 1000000000))]:List Int)
  bif (aB 4 1 d.length 1) then
  Fj (IntKind.wrap .u64 (u.tdiv 1000000000)) neg (d++e0) t t2
  else none
 else
  some (neg,(d,()))
theorem Iy:E5 ta (Fh ta):=fun _ _ _ _ _=>l1 77 0
def Vp (Fj:ae ta):ae wY:=fun n=>
 bif (decide (n<0)) then
  Fj (IntKind.wrap .u64 (0 - (IntKind.wrap .u64 n))) (decide (n<0)) ([]:List Int) false ([]:List Int)
 else
  Fj (IntKind.wrap .u64 n) (decide (n<0)) ([]:List Int) false ([]:List Int)
theorem XX:E1 wY (Vp ta):=fun _=>e1 77
def zw:ae ik:=fun a=>
 bif ((a.2.1.length:Int)==0) then
  some 0
 else
  bif a.1 then
   some (-1)
  else
   some 1
theorem Fk:E1 ik zw:=fun _=>e1 78
def Bt (Iz:ae w6):ae gp:=fun a b=>
 bif (!(a.1==b.1)) then
  bif a.1 then
   some (-1)
  else
   some 1
 else
  bif a.1 then
   (Iz b.2.1 a.2.1).bind fun r0=>
   some r0
  else
   (Iz a.2.1 b.2.1).bind fun r1=>
   some r1
theorem GX:E2 gp (Bt w6):=fun _ _=>e1 79
def vb (pD:ae eo)(Vq:ae Dd)(abD:ae CO)(uv:ae wY)(SQ:ae vM)(sr:ae mW):ae eo:=fun x y t t2=>
 bif (decide ((y.length:Int)>0)) then
  bif (decide ((x.length:Int)≤2)) then
   bif (decide ((y.length:Int)≤2)) then
    (Vq x).bind fun r0=>
    (Vq y).bind fun r1=>
    (abD r0 r1).bind fun r2=>
    (uv r2).bind fun r3=>
    some (r3.1,(r3.2.1,()))
   else
    (SQ x y).bind fun r4=>
    (sr r4.2).bind fun r5=>
    pD y r5 t t2
  else
   (SQ x y).bind fun r6=>
   (sr r6.2).bind fun r7=>
   pD y r7 t t2
 else
  some (false,(x,()))
theorem BS:E4 eo (vb eo Dd CO wY vM mW):=fun _ _ _ _=>l1 80 0
def Bu (pD:ae eo):ae nB:=fun a b=>
 pD a.2.1 b.2.1 false ([]:List Int)
theorem GY:E2 nB (Bu eo):=fun _ _=>e1 80
def Bv (xn:ae jh):ae nC:=fun a=>
 (xn (!a.1) a.2.1).bind fun r0=>
 some (r0.1,(r0.2.1,()))
theorem GZ:E1 nC (Bv jh):=fun _=>e1 81
def Bw (aac:ae ik)(uv:ae wY):ae jz:=fun a=>
 (aac (a.2.1.1,(a.2.1.2.1,()))).bind fun r0=>
 bif (r0==0) then
  (uv 1).bind fun r1=>
  some (r1.1,(r1.2.1,()))
 else
  some (a.2.1.1,(a.2.1.2.1,()))
theorem G0:E1 jz (Bw ik wY):=fun _=>e1 82
def od (tF:ae eN)(tG:ae dE):ae dD:=fun t t2 t3 out a a2=>
 bif (decide (t3<t2)) then
  (idx t t3).bind fun v0=>
  tF v0 t t2 t3 0 out a a2
 else
  tG out a a2
theorem su:E6 dD (od eN dE):=fun _ _ _ _ _ _=>l1 83 0
def oe (tF:ae eN)(tH:ae dD):ae eN:=fun x t t2 t3 t4 out a a2=>
 bif (decide (t4<9)) then
  let e0:Int:=(IntKind.wrap .u32 (48+(x.tmod 10)))
  bif (aB 1 1 out.length 1) then
  tF (IntKind.wrap .u32 (x.tdiv 10)) t t2 t3 (IntKind.wrap .i64 (t4+1)) (out++([(IntKind.wrap .u8 e0)]:List Int)) a a2
  else none
 else
  tH t t2 (IntKind.wrap .i64 (t3+1)) out a a2
theorem sx:E8 eN (oe eN dD):=fun _ _ _ _ _ _ _ _=>l1 83 1
def tI (tG:ae dE)(og:ae dF):ae dE:=fun out a a2=>
 let e0:Int:=(IntKind.wrap .i64 ((out.length:Int) - 1))
 (idx out e0).bind fun _=>
 (out[e0.toNat]?).bind fun v1=>
 bif (v1==48) then
  let e2:Int:=(IntKind.wrap .i64 ((out.length:Int) - 1))
  bif (dW out.length 0 e2) then
  tG (out.take e2.toNat) a a2
  else none
 else
  bif a then
   bif (aB 1 1 out.length 1) then
   let e3:Int:=((out++([45]:List Int)).length:Int)
   og 0 (IntKind.wrap .i64 (e3 - 1)) (out++([45]:List Int))
   else none
  else
   let e4:Int:=(IntKind.wrap .i64 ((out.length:Int) - 1))
   og 0 e4 out
theorem AG:E3 dE (tI dE dF):=fun _ _ _=>l1 83 2
def tJ (og:ae dF):ae dF:=fun i j out=>
 bif (decide (i<j)) then
  (idx out j).bind fun _=>
  (out[j.toNat]?).bind fun v0=>
  (idx out i).bind fun _=>
  (out[i.toNat]?).bind fun v1=>
  (idx out i).bind fun _=>
  (out[i.toNat]?).bind fun v2=>
  (idx (out.set i.toNat v0) j).bind fun _=>
  ((out.set i.toNat v0)[j.toNat]?).bind fun v3=>
  og (IntKind.wrap .i64 (i+1)) (IntKind.wrap .i64 (j - 1)) ((out.set i.toNat v0).set j.toNat v1)
 else
  some (strOf out)
theorem AH:E3 dF (tJ dF):=fun _ _ _=>l1 83 3
def zx (tH:ae dD):ae lr:=fun a=>
 bif ((a.2.1.length:Int)==0) then
  some (bs [48])
 else
  let e0:Int:=(IntKind.wrap .i64 (9*(a.2.1.length:Int)))
  bif (ic 1 0 (IntKind.wrap .i64 (e0+1))) then
  tH a.2.1 (a.2.1.length:Int) 0 ([]:List Int) a.1 a.2.1
  else none
theorem Fl:E1 lr (zx dD):=fun _=>e1 83
def pE (vc:ae fA)(xn:ae jh):ae dx:=fun t t2 t3 out a a2 b b2 t4 t5=>
 bif (decide (t3<t2)) then
  (idx t t3).bind fun v0=>
  vc t3 v0 0 t t2 t3 b2 (b2.length:Int) 0 out a a2 b b2 t4 t5
 else
  (xn (!(a==b)) out).bind fun r1=>
  some (r1.1,(r1.2.1,()))
theorem tK:E10 dx (pE fA jh):=fun _ _ _ _ _ _ _ _ _ _=>l1 110 0
def pF (vc:ae fA)(vd:ae dx):ae fA:=fun i x carry t t2 t3 t4 t5 t6 out a a2 b b2 t7 t8=>
 bif (decide (t6<t5)) then
  (idx t4 t6).bind fun v0=>
  let e1:Int:=(IntKind.wrap .u64 ((IntKind.wrap .u64 x)*(IntKind.wrap .u64 v0)))
  (idx out (IntKind.wrap .i64 (i+t6))).bind fun _=>
  (out[(IntKind.wrap .i64 (i+t6)).toNat]?).bind fun v2=>
  let e3:Int:=(IntKind.wrap .u64 (e1+(IntKind.wrap .u64 v2)))
  let e4:Int:=((IntKind.wrap .u64 (carry+e3)).tmod 1000000000)
  (idx out (IntKind.wrap .i64 (i+t6))).bind fun _=>
  (out[(IntKind.wrap .i64 (i+t6)).toNat]?).bind fun v5=>
  let e6:List Int:=(out.set (IntKind.wrap .i64 (i+t6)).toNat (IntKind.wrap .u32 e4))
  let e7:Int:=(IntKind.wrap .u64 ((IntKind.wrap .u64 (carry+e3)).tdiv 1000000000))
  vc i x e7 t t2 t3 t4 t5 (IntKind.wrap .i64 (t6+1)) e6 a a2 b b2 t7 t8
 else
  (idx out (IntKind.wrap .i64 (i+(b2.length:Int)))).bind fun _=>
  (out[(IntKind.wrap .i64 (i+(b2.length:Int))).toNat]?).bind fun v8=>
  let e9:List Int:=(out.set (IntKind.wrap .i64 (i+(b2.length:Int))).toNat (IntKind.wrap .u32 carry))
  vd t t2 (IntKind.wrap .i64 (t3+1)) e9 a a2 b b2 t7 t8
theorem tL:E16 fA (pF fA dx):=fun _ _ _ _ _ _ _ _ _ _ _ _ _ _ _ _=>l1 110 1
def By (vd:ae dx):ae nE:=fun a b=>
 let e0:Int:=(IntKind.wrap .i64 ((a.2.1.length:Int)+(b.2.1.length:Int)))
 bif (ic 4 e0 e0) then
 vd a.2.1 (a.2.1.length:Int) 0 (List.replicate e0.toNat 0) a.1 a.2.1 b.1 b.2.1 false ([]:List Int)
 else none
theorem G1:E2 nE (By dx):=fun _ _=>e1 110
def IA (sr:ae mW):ae jh:=fun neg d=>
 (sr d).bind fun r0=>
 bif neg then
  some ((decide ((r0.length:Int)>0)),(r0,()))
 else
  some (false,(r0,()))
theorem Nt:E2 jh (IA mW):=fun _ _=>e1 113
def Ab (Ga:ae mV):ae mV:=fun a b i=>
 bif (decide (i≥0)) then
  (idx a i).bind fun v0=>
  (idx b i).bind fun v1=>
  bif (v0 != v1) then
   (idx a i).bind fun v2=>
   (idx b i).bind fun v3=>
   bif (decide (v2<v3)) then
    some (-1)
   else
    some 1
  else
   Ga a b (IntKind.wrap .i64 (i - 1))
 else
  some 0
theorem Dr:E3 mV (Ab mV):=fun _ _ _=>l1 114 0
def Oe (Ga:ae mV):ae w6:=fun a b=>
 bif ((a.length:Int) != (b.length:Int)) then
  bif (decide ((a.length:Int)<(b.length:Int))) then
   some (-1)
  else
   some 1
 else
  let e0:Int:=(IntKind.wrap .i64 ((a.length:Int) - 1))
  Ga a b e0
theorem SR:E2 w6 (Oe mV):=fun _ _=>e1 114
def Dt (Du:ae kx):ae kx:=fun x y=>
 bif (decide (y>0)) then
  bif (!(y==0)) then
  Du y (x.tmod y)
  else none
 else
  some x
theorem Jh:E2 kx (Dt kx):=fun _ _=>l1 115 0
def KG (Du:ae kx):ae CO:=fun x y=>
 Du x y
theorem PY:E2 CO (KG kx):=fun _ _=>e1 115
def kQ (Gb:ae pk):ae pk:=fun d n i=>
 bif (decide (i≥0)) then
  (idx d i).bind fun v0=>
  let e1:Int:=(IntKind.wrap .i64 ((IntKind.wrap .i64 (n*1000000000))+(IntKind.wrap .i64 v0)))
  Gb d e1 (IntKind.wrap .i64 (i - 1))
 else
  some n
theorem lB:E3 pk (kQ pk):=fun _ _ _=>l1 116 0
def Of (Gb:ae pk):ae Dd:=fun d=>
 let e0:Int:=(IntKind.wrap .i64 ((d.length:Int) - 1))
 Gb d 0 e0
theorem SU:E1 Dd (Of pk):=fun _=>e1 116
def KH (Iz:ae w6)(KI:ae tb)(sr:ae mW)(adB:ae De):ae vM:=fun a b=>
 (Iz a b).bind fun r0=>
 bif (decide (r0<0)) then
  some (([]:List Int),a)
 else
  bif ((b.length:Int)==1) then
   (idx b 0).bind fun v1=>
   (KI a v1).bind fun r2=>
   (sr ([r2.2]:List Int)).bind fun r3=>
   some (r2.1,r3)
  else
   (adB a b).bind fun r4=>
   some (r4.1,r4.2)
theorem PZ:E2 vM (KH w6 tb mW De):=fun _ _=>e1 117
def Ac (Gc:ae mX):ae mX:=fun d=>
 bif (decide ((d.length:Int)>0)) then
  let e0:Int:=(IntKind.wrap .i64 ((d.length:Int) - 1))
  (idx d e0).bind fun v1=>
  bif (v1==0) then
   let e2:Int:=(IntKind.wrap .i64 ((d.length:Int) - 1))
   bif (dW d.length 0 e2) then
   Gc (cut d 0 e2)
   else none
  else
   some d
 else
  some d
theorem Dw:E1 mX (Ac mX):=fun _=>l1 118 0
def Oh (Gc:ae mX):ae mW:=fun d=>
 Gc d
theorem SV:E1 mW (Oh mX):=fun _=>e1 118
def zy (G2:ae lv):ae lu:=fun a=>
 (G2 (a.1.1,(a.1.2.1,()))).bind fun r0=>
 bif r0 then
  some true
 else
  (G2 (a.2.1.1,(a.2.1.2.1,()))).bind fun r1=>
  some r1
theorem Fm:E1 lu (zy lv):=fun _=>e1 149
def xo (Dx:ae ky):ae ky:=fun a b rest i out=>
 bif (decide (i≥0)) then
  (idx a i).bind fun v0=>
  let e1:Int:=(IntKind.wrap .u64 ((IntKind.wrap .u64 (rest*1000000000))+(IntKind.wrap .u64 v0)))
  bif (!((IntKind.wrap .u64 b)==0)) then
  let e2:Int:=(IntKind.wrap .u64 (e1.tdiv (IntKind.wrap .u64 b)))
  bif (!((IntKind.wrap .u64 b)==0)) then
  (idx out i).bind fun _=>
  (out[i.toNat]?).bind fun v3=>
  Dx a b (e1.tmod (IntKind.wrap .u64 b)) (IntKind.wrap .i64 (i - 1)) (out.set i.toNat (IntKind.wrap .u32 e2))
  else none
  else none
 else
  some (out,(IntKind.wrap .u32 rest))
theorem Bz:E5 ky (xo ky):=fun _ _ _ _ _=>l1 152 0
def KJ (Dx:ae ky):ae tb:=fun a b=>
 bif (ic 4 (a.length:Int) (a.length:Int)) then
 let e0:List Int:=(List.replicate (a.length:Int).toNat 0)
 let e1:Int:=(IntKind.wrap .i64 ((a.length:Int) - 1))
 Dx a b 0 e1 e0
 else none
theorem P0:E2 tb (KJ ky):=fun _ _=>e1 152
def Ad (Ae:ae jT)(KI:ae tb):ae fj:=fun k v n j q u=>
 bif (decide (j≥0)) then
  (idx u (IntKind.wrap .i64 (j+n))).bind fun _=>
  (u[(IntKind.wrap .i64 (j+n)).toNat]?).bind fun v0=>
  let e1:Int:=(IntKind.wrap .u64 ((IntKind.wrap .u64 v0)*1000000000))
  let e2:Int:=(IntKind.wrap .i64 ((IntKind.wrap .i64 (j+n)) - 1))
  (idx u e2).bind fun _=>
  (u[e2.toNat]?).bind fun v3=>
  let e4:Int:=(IntKind.wrap .u64 (e1+(IntKind.wrap .u64 v3)))
  (idx v (IntKind.wrap .i64 (n - 1))).bind fun v5=>
  bif (!((IntKind.wrap .u64 v5)==0)) then
  let e6:Int:=(IntKind.wrap .u64 (e4.tdiv (IntKind.wrap .u64 v5)))
  (idx v (IntKind.wrap .i64 (n - 1))).bind fun v7=>
  bif (!((IntKind.wrap .u64 v7)==0)) then
  Ae k v n j e6 (e4.tmod (IntKind.wrap .u64 v7)) q u
  else none
  else none
 else
  bif (dW u.length 0 n) then
  (KI (u.take n.toNat) k).bind fun r8=>
  some (q,r8.1)
  else none
theorem Dy:E6 fj (Ad jT tb):=fun _ _ _ _ _ _=>l1 153 0
def Af (kR:ae gO)(Ae:ae jT):ae jT:=fun k v n j guess rest q u=>
 bif (decide (guess≥1000000000)) then
  (idx v (IntKind.wrap .i64 (n - 1))).bind fun v0=>
  let e1:Int:=(IntKind.wrap .u64 (rest+(IntKind.wrap .u64 v0)))
  bif (decide (e1≥1000000000)) then
   kR k v n j (IntKind.wrap .u64 (guess - 1)) 0 n 0 q u
  else
   Ae k v n j (IntKind.wrap .u64 (guess - 1)) e1 q u
 else
  (idx v (IntKind.wrap .i64 (n - 2))).bind fun v2=>
  let e3:Int:=(IntKind.wrap .u64 (guess*(IntKind.wrap .u64 v2)))
  let e4:Int:=(IntKind.wrap .i64 ((IntKind.wrap .i64 (j+n)) - 2))
  (idx u e4).bind fun _=>
  (u[e4.toNat]?).bind fun v5=>
  let e6:Int:=(IntKind.wrap .u64 ((IntKind.wrap .u64 (rest*1000000000))+(IntKind.wrap .u64 v5)))
  bif (decide (e3>e6)) then
   (idx v (IntKind.wrap .i64 (n - 1))).bind fun v7=>
   let e8:Int:=(IntKind.wrap .u64 (rest+(IntKind.wrap .u64 v7)))
   bif (decide (e8≥1000000000)) then
    kR k v n j (IntKind.wrap .u64 (guess - 1)) 0 n 0 q u
   else
    Ae k v n j (IntKind.wrap .u64 (guess - 1)) e8 q u
  else
   kR k v n j guess 0 n 0 q u
theorem Dz:E8 jT (Af gO jT):=fun _ _ _ _ _ _ _ _=>l1 153 1
def Ag (kR:ae gO)(Ge:ae kO)(uw:ae fj):ae gO:=fun k v n j guess borrow t t2 q u=>
 bif (decide (t2<t)) then
  (idx u (IntKind.wrap .i64 (t2+j))).bind fun _=>
  (u[(IntKind.wrap .i64 (t2+j)).toNat]?).bind fun v0=>
  let e1:Int:=(IntKind.wrap .i64 ((IntKind.wrap .i64 v0) - borrow))
  (idx v t2).bind fun v2=>
  let e3:Int:=(IntKind.wrap .i64 ((IntKind.wrap .i64 guess)*(IntKind.wrap .i64 v2)))
  let e4:Int:=(IntKind.wrap .i64 (e1 - (e3.tmod 1000000000)))
  (idx v t2).bind fun v5=>
  let e6:Int:=(IntKind.wrap .i64 ((IntKind.wrap .i64 guess)*(IntKind.wrap .i64 v5)))
  bif (decide (e4<0)) then
   let e7:Int:=(IntKind.wrap .i64 ((IntKind.wrap .i64 (e6.tdiv 1000000000))+1))
   bif (decide ((IntKind.wrap .i64 (e4+1000000000))<0)) then
    let e8:Int:=(IntKind.wrap .i64 ((IntKind.wrap .i64 (e4+1000000000))+1000000000))
    (idx u (IntKind.wrap .i64 (t2+j))).bind fun _=>
    (u[(IntKind.wrap .i64 (t2+j)).toNat]?).bind fun v9=>
    let Y9:List Int:=(u.set (IntKind.wrap .i64 (t2+j)).toNat (IntKind.wrap .u32 e8))
    kR k v n j guess (IntKind.wrap .i64 (e7+1)) t (IntKind.wrap .i64 (t2+1)) q Y9
   else
    let WH:Int:=(IntKind.wrap .u32 (IntKind.wrap .i64 (e4+1000000000)))
    (idx u (IntKind.wrap .i64 (t2+j))).bind fun _=>
    (u[(IntKind.wrap .i64 (t2+j)).toNat]?).bind fun v12=>
    kR k v n j guess e7 t (IntKind.wrap .i64 (t2+1)) q (u.set (IntKind.wrap .i64 (t2+j)).toNat WH)
  else
   bif (decide (e4<0)) then
    let Ze:Int:=(IntKind.wrap .i64 ((IntKind.wrap .i64 (e6.tdiv 1000000000))+1))
    let e14:Int:=(IntKind.wrap .u32 (IntKind.wrap .i64 (e4+1000000000)))
    (idx u (IntKind.wrap .i64 (t2+j))).bind fun _=>
    (u[(IntKind.wrap .i64 (t2+j)).toNat]?).bind fun v15=>
    kR k v n j guess Ze t (IntKind.wrap .i64 (t2+1)) q (u.set (IntKind.wrap .i64 (t2+j)).toNat e14)
   else
    (idx u (IntKind.wrap .i64 (t2+j))).bind fun _=>
    (u[(IntKind.wrap .i64 (t2+j)).toNat]?).bind fun v16=>
    let e17:List Int:=(u.set (IntKind.wrap .i64 (t2+j)).toNat (IntKind.wrap .u32 e4))
    kR k v n j guess (IntKind.wrap .i64 (e6.tdiv 1000000000)) t (IntKind.wrap .i64 (t2+1)) q e17
 else
  (idx u (IntKind.wrap .i64 (j+n))).bind fun _=>
  (u[(IntKind.wrap .i64 (j+n)).toNat]?).bind fun v18=>
  let e19:Int:=(IntKind.wrap .i64 ((IntKind.wrap .i64 v18) - borrow))
  bif (decide (e19<0)) then
   Ge k v n j (IntKind.wrap .u64 (guess - 1)) e19 0 n 0 q u
  else
   (idx u (IntKind.wrap .i64 (j+n))).bind fun _=>
   (u[(IntKind.wrap .i64 (j+n)).toNat]?).bind fun v20=>
   let e21:List Int:=(u.set (IntKind.wrap .i64 (j+n)).toNat 0)
   (idx q j).bind fun _=>
   (q[j.toNat]?).bind fun v22=>
   uw k v n (IntKind.wrap .i64 (j - 1)) (q.set j.toNat (IntKind.wrap .u32 guess)) e21
theorem DA:E10 gO (Ag gO kO fj):=fun _ _ _ _ _ _ _ _ _ _=>l1 153 2
def Ah (Ge:ae kO)(uw:ae fj):ae kO:=fun k v n j guess x carry t t2 q u=>
 bif (decide (t2<t)) then
  (idx u (IntKind.wrap .i64 (t2+j))).bind fun _=>
  (u[(IntKind.wrap .i64 (t2+j)).toNat]?).bind fun v0=>
  (idx v t2).bind fun v1=>
  let e2:Int:=(IntKind.wrap .u32 ((IntKind.wrap .u32 (v0+v1))+carry))
  (idx u (IntKind.wrap .i64 (t2+j))).bind fun _=>
  (u[(IntKind.wrap .i64 (t2+j)).toNat]?).bind fun v3=>
  let e4:List Int:=(u.set (IntKind.wrap .i64 (t2+j)).toNat (e2.tmod 1000000000))
  Ge k v n j guess x (IntKind.wrap .u32 (e2.tdiv 1000000000)) t (IntKind.wrap .i64 (t2+1)) q e4
 else
  let e5:Int:=(IntKind.wrap .i64 (x+(IntKind.wrap .i64 carry)))
  (idx u (IntKind.wrap .i64 (j+n))).bind fun _=>
  (u[(IntKind.wrap .i64 (j+n)).toNat]?).bind fun v6=>
  let e7:List Int:=(u.set (IntKind.wrap .i64 (j+n)).toNat 0)
  (idx q j).bind fun _=>
  (q[j.toNat]?).bind fun v8=>
  uw k v n (IntKind.wrap .i64 (j - 1)) (q.set j.toNat (IntKind.wrap .u32 guess)) e7
theorem DB:E11 kO (Ah kO fj):=fun _ _ _ _ _ _ _ _ _ _ _=>l1 153 3
def Oi (uw:ae fj)(P1:ae u5)(sr:ae mW):ae De:=fun a b=>
 let e0:Int:=(IntKind.wrap .i64 ((b.length:Int) - 1))
 (idx b e0).bind fun v1=>
 let e2:Int:=(IntKind.wrap .u64 ((IntKind.wrap .u64 v1)+1))
 bif (!(e2==0)) then
 let e3:Int:=(IntKind.wrap .u32 (IntKind.wrap .u64 ((1000000000:Int).tdiv e2)))
 (P1 a e3).bind fun r4=>
 (P1 b e3).bind fun r5=>
 (sr r5).bind fun r6=>
 let e7:Int:=(IntKind.wrap .i64 ((r4.length:Int) - (r6.length:Int)))
 bif (ic 4 e7 e7) then
 let e8:Int:=(IntKind.wrap .i64 ((r4.length:Int) - (r6.length:Int)))
 uw e3 r6 (r6.length:Int) (IntKind.wrap .i64 (e8 - 1)) (List.replicate e7.toNat 0) r4
 else none
 else none
theorem SX:E2 De (Oi fj u5 mW):=fun _ _=>e1 153
def zA (Oj:ae gP):ae lv:=fun a=>
 (Oj (a.1,(a.2.1,()))).bind fun r0=>
 some (decide (r0>1000))
theorem Fo:E1 lv (zA gP):=fun _=>e1 164
def uS (BA:ae jA):ae jA:=fun k carry t t2 t3 out=>
 bif (decide (t3<t2)) then
  (idx t t3).bind fun v0=>
  let e1:Int:=(IntKind.wrap .u64 ((IntKind.wrap .u64 v0)*(IntKind.wrap .u64 k)))
  let e2:Int:=((IntKind.wrap .u64 (carry+e1)).tmod 1000000000)
  bif (aB 4 1 out.length 1) then
  let e3:Int:=(IntKind.wrap .u64 ((IntKind.wrap .u64 (carry+e1)).tdiv 1000000000))
  BA k e3 t t2 (IntKind.wrap .i64 (t3+1)) (out++([(IntKind.wrap .u32 e2)]:List Int))
  else none
 else
  bif (aB 4 1 out.length 1) then
  let e4:List Int:=(out++([(IntKind.wrap .u32 carry)]:List Int))
  some e4
  else none
theorem zD:E6 jA (uS jA):=fun _ _ _ _ _ _=>l1 170 0
def IB (BA:ae jA):ae u5:=fun a k=>
 let e0:Int:=(IntKind.wrap .i64 ((a.length:Int)+1))
 bif (ic 4 0 e0) then
 BA k 0 a (a.length:Int) 0 ([]:List Int)
 else none
theorem Nu:E2 u5 (IB jA):=fun _ _=>e1 170
def qJ (qK:ae dr):ae dr:=fun n x=>
 bif (decide (x>0)) then
  qK (IntKind.wrap .i64 (n+1)) (IntKind.wrap .u32 (x.tdiv 10))
 else
  some n
theorem xp:E2 dr (qJ dr):=fun _ _=>l1 176 0
def ve (qK:ae dr):ae gP:=fun a=>
 bif ((a.2.1.length:Int)==0) then
  some 0
 else
  let e0:Int:=(IntKind.wrap .i64 ((a.2.1.length:Int) - 1))
  let e1:Int:=(IntKind.wrap .i64 ((a.2.1.length:Int) - 1))
  (idx a.2.1 e1).bind fun v2=>
  qK (IntKind.wrap .i64 (9*e0)) v2
theorem BT:E1 gP (ve dr):=fun _=>e1 176
end
noncomputable section
def Gf (Zf:ae zm):ae sc:=fun a=>
 (Zf a).bind fun r0=>
 some r0.2
theorem KK:E1 sc (Gf zm):=fun _=>e1 68
def IC (uq:ae gM)(Rz:ae lu):ae zm:=fun a=>
 (uq a).bind fun r0=>
 bif r0.2 then
  (Rz ((r0.1.1.1,(r0.1.1.2.1,())),((r0.1.2.1.1,(r0.1.2.1.2.1,())),()))).bind fun r1=>
  some (((r0.1.1.1,(r0.1.1.2.1,())),((r0.1.2.1.1,(r0.1.2.1.2.1,())),())),(!r1))
 else
  some (((r0.1.1.1,(r0.1.1.2.1,())),((r0.1.2.1.1,(r0.1.2.1.2.1,())),())),false)
theorem Nv:E1 zm (IC gM lu):=fun _=>e1 108
end
noncomputable section
def nJ (ID:ae gQ):ae dR:=fun s f=>
 (ID s f).bind fun r0=>
 some (decide (r0≥0))
theorem tq:E2 dR (nJ gQ):=fun _ _=>e1 100070
def nK (IE:ae gR):ae dS:=fun s f=>
 (IE s ((f.1.1,(f.1.2.1,())),(f.2.1,(f.2.2.1,(f.2.2.2.1,()))))).bind fun r0=>
 some (decide (r0≥0))
theorem tt:E2 dS (nK gR):=fun _ _=>e1 100071
def iS (mC:ae bO)(TD:ae qD):ae bO:=fun s f t t2=>
 bif (decide (t2<t)) then
  (idx s t2).bind fun v0=>
  (TD (v0.1,(v0.2.1,())) f).bind fun r1=>
  bif r1 then
   some t2
  else
   mC s f t (IntKind.wrap .i64 (t2+1))
 else
  some (-1)
theorem lC:E4 bO (iS bO qD):=fun _ _ _ _=>l1 100109 0
def pG (mC:ae bO):ae gQ:=fun s f=>
 mC s f (s.length:Int) 0
theorem vO:E2 gQ (pG bO):=fun _ _=>e1 100109
def iT (mD:ae bP)(TE:ae qE):ae bP:=fun s f f2 f3 f4 f5 t t2=>
 bif (decide (t2<t)) then
  (idx s t2).bind fun v0=>
  (TE (v0.1,(v0.2.1,())) (f,(f2,())) (f3,(f4,(f5,())))).bind fun r1=>
  bif r1 then
   some t2
  else
   mD s f f2 f3 f4 f5 t (IntKind.wrap .i64 (t2+1))
 else
  some (-1)
theorem lD:E8 bP (iT bP qE):=fun _ _ _ _ _ _ _ _=>l1 100110 0
def pH (mD:ae bP):ae gR:=fun s f=>
 mD s f.1.1 f.1.2.1 f.2.1 f.2.2.1 f.2.2.2.1 (s.length:Int) 0
theorem vP:E2 gR (pH bP):=fun _ _=>e1 100110
end
noncomputable section
def Gg (P2:ae mI):ae sf:=fun s sep=>
 (P2 s sep).bind fun r0=>
 some (r0.1,r0.2.1,r0.2.2)
theorem KL:E2 sf (Gg mI):=fun _ _=>e1 75
def tM (G3:ae fX):ae im:=fun s oa=>
 (G3 s oa).bind fun r0=>
 some (r0.1,r0.2)
theorem AI:E2 im (tM fX):=fun _ _=>e1 112
end
noncomputable section
def xq (Mt:ae iw):ae mI:=fun s sep=>
 (Mt s sep).bind fun r0=>
 bif (decide (r0≥0)) then
  bif (dW s.size 0 r0) then
  bif (dW s.size (IntKind.wrap .i64 (r0+(sep.size:Int))) (s.size:Int)) then
  let e1:ByteArray:=(s.extract (IntKind.wrap .i64 (r0+(sep.size:Int))).toNat (s.size:Int).toNat)
  some ((s.extract (0:Int).toNat r0.toNat),e1,true)
  else none
  else none
 else
  some (s,ByteArray.empty,false)
theorem DC:E2 mI (xq iw):=fun _ _=>e1 111
def tN (G4:ae fY):ae iw:=fun s substr=>
 bif ((substr.size:Int)==0) then
  some 0
 else
  bif (substr.toList==s.toList) then
   some 0
  else
   bif ((substr.size:Int)==1) then
    (Bi substr 0).bind fun v0=>
    (G4 s v0).bind fun r1=>
    some r1
   else
    bif (decide ((substr.size:Int)≥(s.size:Int))) then
    some (-1)
    else none
theorem AJ:E2 iw (tN fY):=fun _ _=>e1 150
def oQ (G5:ae fZ):ae fX:=fun s oa=>
 (G5 s oa).bind fun r0=>
 bif (!r0) then
  some (s,false)
 else
  bif (dW s.size (oa.size:Int) (s.size:Int)) then
  let e1:ByteArray:=(s.extract (oa.size:Int).toNat (s.size:Int).toNat)
  some (e1,true)
  else none
theorem ux:E2 fX (oQ fZ):=fun _ _=>e1 151
def oR:ae fZ:=fun s oa=>
 bif (decide ((s.size:Int)≥(oa.size:Int))) then
  bif (dW s.size 0 (oa.size:Int)) then
  let e0:ByteArray:=(s.extract (0:Int).toNat (oa.size:Int).toNat)
  some (e0.toList==oa.toList)
  else none
 else
  some false
theorem uy:E2 fZ oR:=fun _ _=>e1 169
end
noncomputable section
end
noncomputable section
def vQ (Ol:ae kU)(On:ae oD)(Oo:ae oE)(zE:ae gm)(Gh:ae kN)(vf:ae fx)(dT:ae cU):ae lP:=fun raw=>
 Ol.bind fun r0=>
 bif (!r0) then
  some false
 else
  (On (raw.1,(raw.2.1,(raw.2.2.1,(raw.2.2.2.1,())))) 16).bind fun r1=>
  (Oo (r1.1,(r1.2.1,()))).bind fun r2=>
  (zE (r1.1,(r1.2.1,()))).bind fun r3=>
  (Gh (r1.1,(r1.2.1,()))).bind fun r4=>
  (vf (r1.1,(r1.2.1,()))).bind fun r5=>
  bif (r3.2.2==0) then
   bif (r4.2.2==0) then
    bif (r5.2.2==0) then
     (dT r3.1 r2).bind fun r6=>
     bif r6 then
      (dT r4.1 r2).bind fun r7=>
      bif r7 then
       (dT r5.1 r2).bind fun r8=>
       some r8
      else
       some false
     else
      some false
    else
     some false
   else
    some false
  else
   some false
theorem Gi:E1 lP (vQ kU oD oE gm kN fx cU):=fun _=>e1 11
def DD (nb:ae lk)(zE:ae gm)(Gh:ae kN)(vf:ae fx)(Iu:ae pw)(dT:ae cU)(KM:ae sZ)(vR:ae fV):Option Bool:=
 let e0:kn:=([(0,((-1),())),(1,(3,())),(2,(4,())),(5,(6,()))]:kn)
 nb.bind fun r1=>
 (zE (r1.1,(r1.2.1,()))).bind fun r2=>
 nb.bind fun r3=>
 (Gh (r3.1,(r3.2.1,()))).bind fun r4=>
 nb.bind fun r5=>
 (vf (r5.1,(r5.2.1,()))).bind fun r6=>
 nb.bind fun r7=>
 (Iu (r7.1,(r7.2.1,()))).bind fun r8=>
 bif (r2.2.2==0) then
  bif (r4.2.2==0) then
   bif (r6.2.2==0) then
    bif (r8.2==0) then
     (dT r2.1 e0).bind fun r9=>
     bif r9 then
      (dT r4.1 e0).bind fun Ph=>
      bif Ph then
       (dT r6.1 e0).bind fun r11=>
       bif r11 then
        bif (CU yT (r2.2.1.1,(r2.2.1.2.1,())) (2,(0,()))) then
         bif (CU yT (r4.2.1.1,(r4.2.1.2.1,())) (0,(3,()))) then
          bif (CU yT (r6.2.1.1,(r6.2.1.2.1,())) (2,(3,()))) then
           bif ((r8.1.2.1.length:Int)==7) then
            (idx r8.1.2.1 0).bind fun v12=>
            bif (v12.1==2) then
             (idx r8.1.2.1 1).bind fun v13=>
             bif (v13.2.1.toList==(bs [45,50]).toList) then
              (idx r8.1.2.1 1).bind fun v14=>
              (KM ([0,(2:Int)]:List Int)).bind fun r15=>
              (vR v14.2.2.1 r15).bind fun r16=>
              bif r16 then
               (idx r8.1.2.1 4).bind fun v17=>
               bif (v17.1==4) then
                (idx r8.1.2.1 4).bind fun v18=>
                bif (v18.2.1.toList==(bs [45,49,47,50]).toList) then
                 (idx r8.1.2.1 4).bind fun v19=>
                 let e20:List Int:=([1,(1:Int),(2:Int),(1:Int)]:List Int)
                 (KM e20).bind fun r21=>
                 (vR v19.2.2.1 r21).bind fun r22=>
                 some r22
                else
                 some false
               else
                some false
              else
               some false
             else
              some false
            else
             some false
           else
            some false
          else
           some false
         else
          some false
        else
         some false
       else
        some false
      else
       some false
     else
      some false
    else
     some false
   else
    some false
  else
   some false
 else
  some false
theorem Mu:kU=DD lk gm kN fx pw cU sZ fV:=(Fa T B lf 13 ()).trans (by kernel_rfl)
def AK (BB:ae jx):Option Db:=
 let e0:List ((List Int)×ByteArray×Unit):=([(([0]:List Int),((bs [48]),())),(([1]:List Int),((bs [48]),())),(([2]:List Int),((bs [49,47,50]),())),(([0,(1:Int)]:List Int),((bs [49]),())),(([1,(2:Int)]:List Int),((bs [49]),())),(([0,(2:Int)]:List Int),((bs [50]),())),(([0,(1:Int),(2:Int)]:List Int),((bs [51]),()))]:List ((List Int)×ByteArray×Unit))
 (BB e0 3).bind fun r1=>
 some (r1.1.1,(r1.1.2.1,()))
theorem JH:lk=AK jx:=(Fa T B lf 28 ()).trans (by kernel_rfl)
def Fp (xu:ae iH):ae iH:=fun l i out=>
 bif (decide ((IntKind.wrap .i64 (i+1))<(l.length:Int))) then
  (idx l i).bind fun v0=>
  (idx l (IntKind.wrap .i64 (i+1))).bind fun v1=>
  bif (aB 16 2 out.length 1) then
  let e2:kn:=(out++([(v0,(v1,()))]:kn))
  xu l (IntKind.wrap .i64 (i+2)) e2
  else none
 else
  some out
theorem Oq:E3 iH (Fp iH):=fun _ _ _=>l1 31 0
def KN (xu:ae iH):ae sZ:=fun l=>
 xu l 0 ([]:kn)
theorem TF:E1 sZ (KN iH):=fun _=>e1 31
end
noncomputable section
def qL (aq:ae ax)(aA:ae aw):ae di:=fun a=>
 (aq a).bind fun r0=>
 (aA (!r0.1) r0.2).bind fun r1=>
 some r1
theorem xv:E1 di (qL ax aw):=fun _=>e1 66
def sy (aq:ae ax)(iy:ae du):ae bW:=fun a b=>
 (aq a).bind fun r0=>
 (aq b).bind fun r1=>
 bif (!(r0.1==r1.1)) then
  bif r0.1 then
   some (-1)
  else
   some 1
 else
  bif r0.1 then
   (iy r1.2 r0.2).bind fun r2=>
   some r2
  else
   (iy r0.2 r1.2).bind fun r3=>
   some r3
theorem yF:E2 bW (sy ax du):=fun _ _=>e1 104
def lU (qM:ae dj)(qN:ae cB):ae bw:=fun p x q y i out=>
 bif (decide (i<(x.length:Int))) then
  qM p x q y i 0 out
 else
  qN p q 0 out
theorem pI:E6 bw (lU dj cB):=fun _ _ _ _ _ _=>l1 105 0
def lV (qM:ae dj)(lW:ae bw):ae dj:=fun p x q y i k out=>
 bif (decide (k<(y.length:Int))) then
  (idx out (IntKind.wrap .i64 (i+k))).bind fun _=>
  (out[(IntKind.wrap .i64 (i+k)).toNat]?).bind fun v0=>
  (idx x i).bind fun v1=>
  (idx y k).bind fun v2=>
  let e3:Int:=(IntKind.wrap .i64 (v0+(IntKind.wrap .i64 (v1*v2))))
  (idx out (IntKind.wrap .i64 (i+k))).bind fun _=>
  (out[(IntKind.wrap .i64 (i+k)).toNat]?).bind fun v4=>
  qM p x q y i (IntKind.wrap .i64 (k+1)) (out.set (IntKind.wrap .i64 (i+k)).toNat e3)
 else
  lW p x q y (IntKind.wrap .i64 (i+1)) out
theorem pJ:E7 dj (lV dj bw):=fun _ _ _ _ _ _ _=>l1 105 1
def lX (qN:ae cB)(aA:ae aw):ae cB:=fun p q i out=>
 bif (decide ((IntKind.wrap .i64 (i+1))<(out.length:Int))) then
  (idx out (IntKind.wrap .i64 (i+1))).bind fun _=>
  (out[(IntKind.wrap .i64 (i+1)).toNat]?).bind fun v0=>
  (idx out i).bind fun _=>
  (out[i.toNat]?).bind fun v1=>
  let e2:Int:=(IntKind.wrap .i64 (v0+(IntKind.wrap .i64 (v1.tdiv 10))))
  (idx out (IntKind.wrap .i64 (i+1))).bind fun _=>
  (out[(IntKind.wrap .i64 (i+1)).toNat]?).bind fun v3=>
  let e4:List Int:=(out.set (IntKind.wrap .i64 (i+1)).toNat e2)
  (idx e4 i).bind fun _=>
  (e4[i.toNat]?).bind fun v5=>
  (idx e4 i).bind fun _=>
  (e4[i.toNat]?).bind fun v6=>
  qN p q (IntKind.wrap .i64 (i+1)) (e4.set i.toNat (v5.tmod 10))
 else
  (aA (!(p==q)) out).bind fun r7=>
  some r7
theorem pK:E4 cB (lX cB aw):=fun _ _ _ _=>l1 105 2
def vg (lW:ae bw)(fk:ae dy)(bj:ae bL)(aq:ae ax):ae fz:=fun a b=>
 (fk a).bind fun r0=>
 (fk b).bind fun r1=>
 bif r0.2 then
  bif r1.2 then
   (bj (IntKind.wrap .i64 (r0.1*r1.1))).bind fun r2=>
   some r2
  else
   (aq a).bind fun r3=>
   (aq b).bind fun r4=>
   let e5:Int:=(IntKind.wrap .i64 ((r3.2.length:Int)+(r4.2.length:Int)))
   bif (ic 8 (IntKind.wrap .i64 (e5+1)) (IntKind.wrap .i64 (e5+1))) then
   let e6:List Int:=(List.replicate (IntKind.wrap .i64 (e5+1)).toNat 0)
   lW r3.1 r3.2 r4.1 r4.2 0 e6
   else none
 else
  (aq a).bind fun r7=>
  (aq b).bind fun r8=>
  let e9:Int:=(IntKind.wrap .i64 ((r7.2.length:Int)+(r8.2.length:Int)))
  bif (ic 8 (IntKind.wrap .i64 (e9+1)) (IntKind.wrap .i64 (e9+1))) then
  let Y9:List Int:=(List.replicate (IntKind.wrap .i64 (e9+1)).toNat 0)
  lW r7.1 r7.2 r8.1 r8.2 0 Y9
  else none
theorem BU:E2 fz (vg bw dy bL ax):=fun _ _=>e1 105
def kB (iz:ae cY)(dG:ae bk):ae cY:=fun a minus i d=>
 bif (decide (i≥0)) then
  (Bi a i).bind fun v0=>
  bif (v0 != 45) then
   (Bi a i).bind fun v1=>
   let e2:Int:=(IntKind.wrap .i64 ((IntKind.wrap .i64 v1) - 48))
   bif (aB 8 1 d.length 1) then
   iz a minus (IntKind.wrap .i64 (i - 1)) (d++([e2]:List Int))
   else none
  else
   iz a minus (IntKind.wrap .i64 (i - 1)) d
 else
  (dG d).bind fun r3=>
  some (minus,r3)
theorem oS:E4 cY (kB cY bk):=fun _ _ _ _=>l1 106 0
def tO (iz:ae cY):ae ax:=fun a=>
 bif (decide ((a.size:Int)>0)) then
  (Bi a 0).bind fun v0=>
  iz a (v0==45) (IntKind.wrap .i64 ((a.size:Int) - 1)) ([]:List Int)
 else
  iz a false (IntKind.wrap .i64 ((a.size:Int) - 1)) ([]:List Int)
theorem AM:E1 ax (tO cY):=fun _=>e1 106
def nc (nf:ae dM):ae dM:=fun d i out=>
 bif (decide (i≥0)) then
  (idx d i).bind fun v0=>
  let e1:Int:=(IntKind.wrap .u8 (IntKind.wrap .i64 (48+v0)))
  bif (aB 1 1 out.length 1) then
  nf d (IntKind.wrap .i64 (i - 1)) (out++([e1]:List Int))
  else none
 else
  some (strOf out)
theorem qO:E3 dM (nc dM):=fun _ _ _=>l1 107 0
def xw (nf:ae dM)(dG:ae bk):ae aw:=fun minus d=>
 (dG d).bind fun r0=>
 bif ((r0.length:Int)==0) then
  some (bs [48])
 else
  bif minus then
   bif (aB 1 1 0 1) then
   let e1:Int:=(IntKind.wrap .i64 ((r0.length:Int) - 1))
   nf r0 e1 (([]:List Int)++([45]:List Int))
   else none
  else
   let e2:Int:=(IntKind.wrap .i64 ((r0.length:Int) - 1))
   nf r0 e2 ([]:List Int)
theorem DE:E2 aw (xw dM bk):=fun _ _=>e1 107
def kC (pL:ae c5)(aA:ae aw):ae c5:=fun q d=>
 bif (decide (q>0)) then
  bif (aB 8 1 d.length 1) then
  pL (IntKind.wrap .i64 (q.tdiv 10)) (d++([(q.tmod 10)]:List Int))
  else none
 else
  (aA true d).bind fun r0=>
  some r0
theorem oT:E2 c5 (kC c5 aw):=fun _ _=>l1 139 0
def kD (pM:ae c6)(aA:ae aw):ae c6:=fun n d=>
 bif (decide (n>0)) then
  bif (aB 8 1 d.length 1) then
  pM (IntKind.wrap .i64 (n.tdiv 10)) (d++([(n.tmod 10)]:List Int))
  else none
 else
  (aA false d).bind fun r0=>
  some r0
theorem oU:E2 c6 (kD c6 aw):=fun _ _=>l1 139 1
def tQ (pL:ae c5)(pM:ae c6):ae bL:=fun n=>
 bif (decide (n<0)) then
  let e0:List Int:=([(IntKind.wrap .i64 (0 - (n.tmod 10)))]:List Int)
  bif (aB 8 1 0 1) then
  let e1:Int:=(IntKind.wrap .i64 (0 - (IntKind.wrap .i64 (n.tdiv 10))))
  pL e1 (([]:List Int)++e0)
  else none
 else
  pM n ([]:List Int)
theorem AN:E1 bL (tQ c5 c6):=fun _=>e1 139
def xx (tR:ae eO):ae iI:=fun a=>
 (tR a).bind fun r0=>
 some (decide (r0>1000))
theorem DF:E1 iI (xx eO):=fun _=>e1 143
def lY (bU:ae cC):ae cC:=fun s i=>
 bif (decide (i<(s.size:Int))) then
  (Bi s i).bind fun v0=>
  bif (decide (v0<48)) then
   some false
  else
   (Bi s i).bind fun v1=>
   bif (decide (v1>57)) then
    some false
   else
    bU s (IntKind.wrap .i64 (i+1))
 else
  some true
theorem pN:E2 cC (lY cC):=fun _ _=>l1 144 0
def vh (bU:ae cC):ae jo:=fun a=>
 bif (decide ((a.size:Int)>0)) then
  (Bi a 0).bind fun v0=>
  bif (v0==45) then
   bif (dW a.size 1 (a.size:Int)) then
   let e1:Int:=((a.extract (1:Int).toNat (a.size:Int).toNat).size:Int)
   bif (decide (e1>0)) then
    (Bi (a.extract (1:Int).toNat (a.size:Int).toNat) 0).bind fun v2=>
    bif (v2==48) then
     some false
    else
     let e3:Int:=((a.extract (1:Int).toNat (a.size:Int).toNat).size:Int)
     bif (e3==0) then
      some false
     else
      (Bi (a.extract (1:Int).toNat (a.size:Int).toNat) 0).bind fun v4=>
      bif (v4==48) then
       let e5:Int:=((a.extract (1:Int).toNat (a.size:Int).toNat).size:Int)
       bif (decide (e5>1)) then
        some false
       else
        bU (a.extract (1:Int).toNat (a.size:Int).toNat) 0
      else
       bU (a.extract (1:Int).toNat (a.size:Int).toNat) 0
   else
    let e6:Int:=((a.extract (1:Int).toNat (a.size:Int).toNat).size:Int)
    bif (e6==0) then
     some false
    else
     (Bi (a.extract (1:Int).toNat (a.size:Int).toNat) 0).bind fun v7=>
     bif (v7==48) then
      let e8:Int:=((a.extract (1:Int).toNat (a.size:Int).toNat).size:Int)
      bif (decide (e8>1)) then
       some false
      else
       bU (a.extract (1:Int).toNat (a.size:Int).toNat) 0
     else
      bU (a.extract (1:Int).toNat (a.size:Int).toNat) 0
   else none
  else
   bif ((a.size:Int)==0) then
    some false
   else
    (Bi a 0).bind fun v9=>
    bif (v9==48) then
     bif (decide ((a.size:Int)>1)) then
      some false
     else
      bU a 0
    else
     bU a 0
 else
  bif ((a.size:Int)==0) then
   some false
  else
   (Bi a 0).bind fun v10=>
   bif (v10==48) then
    bif (decide ((a.size:Int)>1)) then
     some false
    else
     bU a 0
   else
    bU a 0
theorem BV:E1 jo (vh cC):=fun _=>e1 144
def oV (oW:ae cn)(ga:ae dq):ae cn:=fun x y=>
 bif (!(y.toList==(bs [48]).toList)) then
  (ga x y).bind fun r0=>
  oW y r0.2
 else
  some x
theorem uz:E2 cn (oV cn dq):=fun _ _=>l1 145 0
def sA (oW:ae cn)(yI:ae fQ):ae dN:=fun a b=>
 (yI a).bind fun r0=>
 (yI b).bind fun r1=>
 oW r0 r1
theorem yJ:E2 dN (sA cn fQ):=fun _ _=>e1 145
def ng (sB:ae dO):ae dO:=fun a b i=>
 bif (decide (i≥0)) then
  (idx a i).bind fun v0=>
  (idx b i).bind fun v1=>
  bif (decide (v0<v1)) then
   some (-1)
  else
   (idx a i).bind fun v2=>
   (idx b i).bind fun v3=>
   bif (decide (v2>v3)) then
    some 1
   else
    sB a b (IntKind.wrap .i64 (i - 1))
 else
  some 0
theorem qP:E3 dO (ng dO):=fun _ _ _=>l1 146 0
def xy (sB:ae dO):ae du:=fun a b=>
 bif ((a.length:Int) != (b.length:Int)) then
  bif (decide ((a.length:Int)<(b.length:Int))) then
   some (-1)
  else
   some 1
 else
  let e0:Int:=(IntKind.wrap .i64 ((a.length:Int) - 1))
  sB a b e0
theorem DG:E2 du (xy dO):=fun _ _=>e1 146
def lZ (l7:ae dn):ae dn:=fun a n i=>
 bif (decide (i<(a.size:Int))) then
  (Bi a i).bind fun v0=>
  bif (v0 != 45) then
   (Bi a i).bind fun v1=>
   let e2:Int:=(IntKind.wrap .i64 ((IntKind.wrap .i64 (10*n))+(IntKind.wrap .i64 v1)))
   l7 a (IntKind.wrap .i64 (e2 - 48)) (IntKind.wrap .i64 (i+1))
  else
   l7 a n (IntKind.wrap .i64 (i+1))
 else
  bif (decide ((a.size:Int)>0)) then
   (Bi a 0).bind fun v3=>
   bif (v3==45) then
    some ((IntKind.wrap .i64 (0 - n)),true)
   else
    some (n,true)
  else
   some (n,true)
theorem pO:E3 dn (lZ dn):=fun _ _ _=>l1 147 0
def vi (l7:ae dn)(tR:ae eO):ae dy:=fun a=>
 (tR a).bind fun r0=>
 bif (decide (r0>9)) then
  some (0,false)
 else
  l7 a 0 0
theorem BW:E1 dy (vi dn eO):=fun _=>e1 147
def ni (sC:ae dP):ae dP:=fun d=>
 bif (decide ((d.length:Int)>0)) then
  let e0:Int:=(IntKind.wrap .i64 ((d.length:Int) - 1))
  (idx d e0).bind fun v1=>
  bif (v1==0) then
   let e2:Int:=(IntKind.wrap .i64 ((d.length:Int) - 1))
   bif (dW d.length 0 e2) then
   sC (cut d 0 e2)
   else none
  else
   some d
 else
  some d
theorem qQ:E1 dP (ni dP):=fun _=>l1 148 0
def xz (sC:ae dP):ae bk:=fun d=>
 sC d
theorem DH:E1 bk (xz dP):=fun _=>e1 148
def jH (nL:ae bZ)(nM:ae aE)(dG:ae bk):ae bf:=fun b p x s y r i q=>
 bif (decide (i≥0)) then
  (idx x i).bind fun v0=>
  bif (aB 8 1 1 r.length) then
  (dG (([v0]:List Int)++r)).bind fun r1=>
  nL b p x s y r1 i 0 q
  else none
 else
  nM b p s r 0 q
theorem mE:E8 bf (jH bZ aE bk):=fun _ _ _ _ _ _ _ _=>l1 161 0
def nN (nL:ae bZ)(jI:ae bf)(iy:ae du)(eS:ae aV):ae bZ:=fun b p x s y r i k q=>
 (iy r y).bind fun r0=>
 bif (decide (r0≥0)) then
  (eS r y).bind fun r1=>
  nL b p x s y r1 i (IntKind.wrap .i64 (k+1)) q
 else
  bif (aB 8 1 q.length 1) then
  jI b p x s y r (IntKind.wrap .i64 (i - 1)) (q++([k]:List Int))
  else none
theorem tu:E9 bZ (nN bZ bf du aV):=fun _ _ _ _ _ _ _ _ _=>l1 161 1
def jJ (nM:ae aE)(aA:ae aw)(Ot:ae jq)(xA:ae gv):ae aE:=fun b p s r i q=>
 let e0:Int:=(IntKind.wrap .i64 ((q.length:Int).tdiv 2))
 bif (decide (i<e0)) then
  let e1:Int:=(IntKind.wrap .i64 ((q.length:Int) - 1))
  let e2:Int:=(IntKind.wrap .i64 ((q.length:Int) - 1))
  (idx q (IntKind.wrap .i64 (e2 - i))).bind fun _=>
  (q[(IntKind.wrap .i64 (e2 - i)).toNat]?).bind fun v3=>
  (idx q i).bind fun _=>
  (q[i.toNat]?).bind fun v4=>
  (idx q i).bind fun _=>
  (q[i.toNat]?).bind fun v5=>
  (idx (q.set i.toNat v3) (IntKind.wrap .i64 (e1 - i))).bind fun _=>
  ((q.set i.toNat v3)[(IntKind.wrap .i64 (e1 - i)).toNat]?).bind fun v6=>
  let e7:List Int:=((q.set i.toNat v3).set (IntKind.wrap .i64 (e1 - i)).toNat v4)
  nM b p s r (IntKind.wrap .i64 (i+1)) e7
 else
  (aA (!(p==s)) q).bind fun r8=>
  (aA p r).bind fun r9=>
  bif (!(r9.toList==(bs [48]).toList)) then
   bif (!(p==s)) then
    (Ot r8 (bs [49])).bind fun Ph=>
    (xA r9 b).bind fun r11=>
    some (Ph,r11)
   else
    some (r8,r9)
  else
   some (r8,r9)
theorem mF:E6 aE (jJ aE aw jq gv):=fun _ _ _ _ _ _=>l1 161 2
def qR (jI:ae bf)(fk:ae dy)(bj:ae bL)(aq:ae ax)(dG:ae bk):ae dq:=fun a b=>
 (fk a).bind fun r0=>
 (fk b).bind fun r1=>
 bif r0.2 then
  bif r1.2 then
   bif (!(r1.1==0)) then
   bif (!(r1.1==0)) then
   bif ((r0.1.tmod r1.1) != 0) then
    bif (!((decide ((r0.1.tmod r1.1)<0))==(decide (r1.1<0)))) then
     let e2:Int:=(IntKind.wrap .i64 ((IntKind.wrap .i64 (r0.1.tdiv r1.1)) - 1))
     (bj e2).bind fun r3=>
     (bj (IntKind.wrap .i64 ((r0.1.tmod r1.1)+r1.1))).bind fun r4=>
     some (r3,r4)
    else
     (bj (IntKind.wrap .i64 (r0.1.tdiv r1.1))).bind fun r5=>
     (bj (r0.1.tmod r1.1)).bind fun r6=>
     some (r5,r6)
   else
    (bj (IntKind.wrap .i64 (r0.1.tdiv r1.1))).bind fun r7=>
    (bj (r0.1.tmod r1.1)).bind fun r8=>
    some (r7,r8)
   else none
   else none
  else
   (aq a).bind fun r9=>
   (aq b).bind fun Ph=>
   let WH:Int:=(IntKind.wrap .i64 ((Ph.2.length:Int) - 1))
   let e12:Int:=(bif decide (WH>0) then WH else 0)
   let Ze:Int:=(bif decide ((IntKind.wrap .i64 ((r9.2.length:Int) - e12))>0) then (IntKind.wrap .i64 ((r9.2.length:Int) - e12)) else 0)
   bif (dW r9.2.length Ze (r9.2.length:Int)) then
   bif (aB 8 1 0 (cut r9.2 Ze (r9.2.length:Int)).length) then
   let e14:List Int:=(([]:List Int)++(cut r9.2 Ze (r9.2.length:Int)))
   (dG e14).bind fun r15=>
   jI b r9.1 r9.2 Ph.1 Ph.2 r15 (IntKind.wrap .i64 (Ze - 1)) ([]:List Int)
   else none
   else none
 else
  (aq a).bind fun r16=>
  (aq b).bind fun r17=>
  let e18:Int:=(IntKind.wrap .i64 ((r17.2.length:Int) - 1))
  let e19:Int:=(bif decide (e18>0) then e18 else 0)
  let e20:Int:=(bif decide ((IntKind.wrap .i64 ((r16.2.length:Int) - e19))>0) then (IntKind.wrap .i64 ((r16.2.length:Int) - e19)) else 0)
  bif (dW r16.2.length e20 (r16.2.length:Int)) then
  bif (aB 8 1 0 (cut r16.2 e20 (r16.2.length:Int)).length) then
  let e21:List Int:=(([]:List Int)++(cut r16.2 e20 (r16.2.length:Int)))
  (dG e21).bind fun r22=>
  jI b r16.1 r16.2 r17.1 r17.2 r22 (IntKind.wrap .i64 (e20 - 1)) ([]:List Int)
  else none
  else none
theorem xB:E2 dq (qR bf dy bL ax bk):=fun _ _=>e1 161
def tS:ae eO:=fun a=>
 bif (decide ((a.size:Int)>0)) then
  (Bi a 0).bind fun v0=>
  bif (v0==45) then
   some (IntKind.wrap .i64 ((a.size:Int) - 1))
  else
   some (a.size:Int)
 else
  some (a.size:Int)
theorem AO:E1 eO tS:=fun _=>e1 162
def qS (aq:ae ax)(aA:ae aw):ae fQ:=fun a=>
 (aq a).bind fun r0=>
 (aA false r0.2).bind fun r1=>
 some r1
theorem xC:E1 fQ (qS ax aw):=fun _=>e1 163
def iA (dz:ae bB)(dG:ae bk):ae bB:=fun a b borrow i out=>
 bif (decide (i<(a.length:Int))) then
  (idx a i).bind fun v0=>
  bif (decide (i<(b.length:Int))) then
   (idx b i).bind fun v1=>
   let e2:Int:=(IntKind.wrap .i64 ((IntKind.wrap .i64 (v0 - borrow)) - v1))
   bif (decide (e2<0)) then
    let e3:List Int:=([(IntKind.wrap .i64 (e2+10))]:List Int)
    bif (aB 8 1 out.length 1) then
    dz a b 1 (IntKind.wrap .i64 (i+1)) (out++e3)
    else none
   else
    bif (aB 8 1 out.length 1) then
    dz a b 0 (IntKind.wrap .i64 (i+1)) (out++([e2]:List Int))
    else none
  else
   bif (decide ((IntKind.wrap .i64 (v0 - borrow))<0)) then
    let e4:Int:=(IntKind.wrap .i64 ((IntKind.wrap .i64 (v0 - borrow))+10))
    bif (aB 8 1 out.length 1) then
    dz a b 1 (IntKind.wrap .i64 (i+1)) (out++([e4]:List Int))
    else none
   else
    bif (aB 8 1 out.length 1) then
    let e5:List Int:=(out++([(IntKind.wrap .i64 (v0 - borrow))]:List Int))
    dz a b 0 (IntKind.wrap .i64 (i+1)) e5
    else none
 else
  (dG out).bind fun r6=>
  some r6
theorem kE:E5 bB (iA bB bk):=fun _ _ _ _ _=>l1 173 0
def oX (dz:ae bB):ae aV:=fun a b=>
 dz a b 0 0 ([]:List Int)
theorem uA:E2 aV (oX bB):=fun _ _=>e1 173
def vj (l8:ae di)(xA:ae gv):ae jq:=fun a b=>
 (l8 b).bind fun r0=>
 (xA a r0).bind fun r1=>
 some r1
theorem BY:E2 jq (vj di gv):=fun _ _=>e1 174
def xD (fk:ae dy)(bj:ae bL)(aq:ae ax)(G6:ae ix)(aA:ae aw)(iy:ae du)(eS:ae aV):ae gv:=fun a b=>
 (fk a).bind fun r0=>
 (fk b).bind fun r1=>
 bif r0.2 then
  bif r1.2 then
   (bj (IntKind.wrap .i64 (r0.1+r1.1))).bind fun r2=>
   some r2
  else
   (aq a).bind fun r3=>
   (aq b).bind fun r4=>
   bif (r3.1==r4.1) then
    (G6 r3.2 r4.2).bind fun r5=>
    (aA r3.1 r5).bind fun r6=>
    some r6
   else
    (iy r3.2 r4.2).bind fun r7=>
    bif (decide (r7<0)) then
     (eS r4.2 r3.2).bind fun r8=>
     (aA r4.1 r8).bind fun r9=>
     some r9
    else
     (eS r3.2 r4.2).bind fun Ph=>
     (aA r3.1 Ph).bind fun r11=>
     some r11
 else
  (aq a).bind fun r12=>
  (aq b).bind fun r13=>
  bif (r12.1==r13.1) then
   (G6 r12.2 r13.2).bind fun r14=>
   (aA r12.1 r14).bind fun r15=>
   some r15
  else
   (iy r12.2 r13.2).bind fun r16=>
   bif (decide (r16<0)) then
    (eS r13.2 r12.2).bind fun r17=>
    (aA r13.1 r17).bind fun r18=>
    some r18
   else
    (eS r12.2 r13.2).bind fun r19=>
    (aA r12.1 r19).bind fun r20=>
    some r20
theorem DI:E2 gv (xD dy bL ax ix aw du aV):=fun _ _=>e1 175
def ko (aP:ae eP):ae eP:=fun a b carry i out=>
 bif (decide (i<(a.length:Int))) then
  bif (decide (i<(a.length:Int))) then
   (idx a i).bind fun v0=>
   bif (decide (i<(b.length:Int))) then
    (idx b i).bind fun v1=>
    let e2:Int:=(IntKind.wrap .i64 ((IntKind.wrap .i64 (carry+v0))+v1))
    bif (aB 8 1 out.length 1) then
    aP a b (IntKind.wrap .i64 (e2.tdiv 10)) (IntKind.wrap .i64 (i+1)) (out++([(e2.tmod 10)]:List Int))
    else none
   else
    let e3:Int:=((IntKind.wrap .i64 (carry+v0)).tmod 10)
    bif (aB 8 1 out.length 1) then
    let e4:Int:=(IntKind.wrap .i64 ((IntKind.wrap .i64 (carry+v0)).tdiv 10))
    aP a b e4 (IntKind.wrap .i64 (i+1)) (out++([e3]:List Int))
    else none
  else
   bif (decide (i<(b.length:Int))) then
    (idx b i).bind fun v5=>
    let e6:Int:=((IntKind.wrap .i64 (carry+v5)).tmod 10)
    bif (aB 8 1 out.length 1) then
    let e7:Int:=(IntKind.wrap .i64 ((IntKind.wrap .i64 (carry+v5)).tdiv 10))
    aP a b e7 (IntKind.wrap .i64 (i+1)) (out++([e6]:List Int))
    else none
   else
    bif (aB 8 1 out.length 1) then
    aP a b (IntKind.wrap .i64 (carry.tdiv 10)) (IntKind.wrap .i64 (i+1)) (out++([(carry.tmod 10)]:List Int))
    else none
 else
  bif (decide (i<(b.length:Int))) then
   bif (decide (i<(a.length:Int))) then
    (idx a i).bind fun v8=>
    bif (decide (i<(b.length:Int))) then
     (idx b i).bind fun v9=>
     let Y9:Int:=(IntKind.wrap .i64 ((IntKind.wrap .i64 (carry+v8))+v9))
     bif (aB 8 1 out.length 1) then
     aP a b (IntKind.wrap .i64 (Y9.tdiv 10)) (IntKind.wrap .i64 (i+1)) (out++([(Y9.tmod 10)]:List Int))
     else none
    else
     let WH:Int:=((IntKind.wrap .i64 (carry+v8)).tmod 10)
     bif (aB 8 1 out.length 1) then
     let e12:Int:=(IntKind.wrap .i64 ((IntKind.wrap .i64 (carry+v8)).tdiv 10))
     aP a b e12 (IntKind.wrap .i64 (i+1)) (out++([WH]:List Int))
     else none
   else
    bif (decide (i<(b.length:Int))) then
     (idx b i).bind fun v13=>
     let e14:Int:=((IntKind.wrap .i64 (carry+v13)).tmod 10)
     bif (aB 8 1 out.length 1) then
     let e15:Int:=(IntKind.wrap .i64 ((IntKind.wrap .i64 (carry+v13)).tdiv 10))
     aP a b e15 (IntKind.wrap .i64 (i+1)) (out++([e14]:List Int))
     else none
    else
     bif (aB 8 1 out.length 1) then
     aP a b (IntKind.wrap .i64 (carry.tdiv 10)) (IntKind.wrap .i64 (i+1)) (out++([(carry.tmod 10)]:List Int))
     else none
  else
   bif (decide (carry>0)) then
    bif (decide (i<(a.length:Int))) then
     (idx a i).bind fun v16=>
     bif (decide (i<(b.length:Int))) then
      (idx b i).bind fun v17=>
      let e18:Int:=(IntKind.wrap .i64 ((IntKind.wrap .i64 (carry+v16))+v17))
      bif (aB 8 1 out.length 1) then
      aP a b (IntKind.wrap .i64 (e18.tdiv 10)) (IntKind.wrap .i64 (i+1)) (out++([(e18.tmod 10)]:List Int))
      else none
     else
      let e19:Int:=((IntKind.wrap .i64 (carry+v16)).tmod 10)
      bif (aB 8 1 out.length 1) then
      let e20:Int:=(IntKind.wrap .i64 ((IntKind.wrap .i64 (carry+v16)).tdiv 10))
      aP a b e20 (IntKind.wrap .i64 (i+1)) (out++([e19]:List Int))
      else none
    else
     bif (decide (i<(b.length:Int))) then
      (idx b i).bind fun v21=>
      let e22:Int:=((IntKind.wrap .i64 (carry+v21)).tmod 10)
      bif (aB 8 1 out.length 1) then
      let e23:Int:=(IntKind.wrap .i64 ((IntKind.wrap .i64 (carry+v21)).tdiv 10))
      aP a b e23 (IntKind.wrap .i64 (i+1)) (out++([e22]:List Int))
      else none
     else
      bif (aB 8 1 out.length 1) then
      aP a b (IntKind.wrap .i64 (carry.tdiv 10)) (IntKind.wrap .i64 (i+1)) (out++([(carry.tmod 10)]:List Int))
      else none
   else
    some out
theorem nj:E5 eP (ko eP):=fun _ _ _ _ _=>l1 179 0
def zF (aP:ae eP):ae ix:=fun a b=>
 aP a b 0 0 ([]:List Int)
theorem Fq:E2 ix (zF eP):=fun _ _=>e1 179
end
noncomputable section
def vk (P3:ae kl)(TG:ae nD):ae fy:=fun a=>
 (P3 a).bind fun r0=>
 bif (!r0) then
  (TG a).bind fun r1=>
  some r1
 else
  some false
theorem B0:E1 fy (vk kl nD):=fun _=>e1 61
def sD (fm:ae cQ)(b8:ae bW)(fo:ae fz):ae bV:=fun a b=>
 bif (a.toList==(bs [105,110,102]).toList) then
  bif (b.toList==(bs [105,110,102]).toList) then
   some 0
  else
   bif (a.toList==(bs [105,110,102]).toList) then
    some 1
   else
    bif (b.toList==(bs [105,110,102]).toList) then
     some (-1)
    else
     (fm a).bind fun r0=>
     (fm b).bind fun r1=>
     bif (r0.2.1.toList==(bs [49]).toList) then
      bif (r1.2.1.toList==(bs [49]).toList) then
       (b8 r0.1 r1.1).bind fun r2=>
       some r2
      else
       (fo r0.1 r1.2.1).bind fun r3=>
       (fo r1.1 r0.2.1).bind fun r4=>
       (b8 r3 r4).bind fun r5=>
       some r5
     else
      (fo r0.1 r1.2.1).bind fun r6=>
      (fo r1.1 r0.2.1).bind fun r7=>
      (b8 r6 r7).bind fun r8=>
      some r8
 else
  bif (a.toList==(bs [105,110,102]).toList) then
   some 1
  else
   bif (b.toList==(bs [105,110,102]).toList) then
    some (-1)
   else
    (fm a).bind fun r9=>
    (fm b).bind fun Ph=>
    bif (r9.2.1.toList==(bs [49]).toList) then
     bif (Ph.2.1.toList==(bs [49]).toList) then
      (b8 r9.1 Ph.1).bind fun r11=>
      some r11
     else
      (fo r9.1 Ph.2.1).bind fun r12=>
      (fo Ph.1 r9.2.1).bind fun r13=>
      (b8 r12 r13).bind fun r14=>
      some r14
    else
     (fo r9.1 Ph.2.1).bind fun r15=>
     (fo Ph.1 r9.2.1).bind fun r16=>
     (b8 r15 r16).bind fun r17=>
     some r17
theorem yK:E2 bV (sD cQ bW fz):=fun _ _=>e1 64
def l9 (qT:ae dh):ae dh:=fun a i=>
 bif (decide (i<(a.size:Int))) then
  (Bi a i).bind fun v0=>
  bif (v0==47) then
   bif (dW a.size 0 i) then
   bif (dW a.size (IntKind.wrap .i64 (i+1)) (a.size:Int)) then
   let e1:ByteArray:=(a.extract (IntKind.wrap .i64 (i+1)).toNat (a.size:Int).toNat)
   some ((a.extract (0:Int).toNat i.toNat),e1,true)
   else none
   else none
  else
   qT a (IntKind.wrap .i64 (i+1))
 else
  some (a,(bs [49]),false)
theorem pP:E2 dh (l9 dh):=fun _ _=>l1 65 0
def vm (qT:ae dh):ae cQ:=fun a=>
 qT a 0
theorem B1:E1 cQ (vm dh):=fun _=>e1 65
def yL (bj:ae bL)(KO:ae jn):ae fM:=fun a b=>
 (bj a).bind fun r0=>
 (bj b).bind fun r1=>
 (KO r0 r1).bind fun r2=>
 some r2
theorem IF:E2 fM (yL bL jn):=fun _ _=>e1 95
def xE (fm:ae cQ)(Fs:ae iI):ae kl:=fun a=>
 (fm a).bind fun r0=>
 (Fs r0.1).bind fun r1=>
 bif r1 then
  some true
 else
  (Fs r0.2.1).bind fun r2=>
  some r2
theorem DJ:E1 kl (xE cQ iI):=fun _=>e1 102
def BC (fm:ae cQ)(DK:ae jo)(b8:ae bW)(nk:ae dN):ae nD:=fun a=>
 (fm a).bind fun r0=>
 (DK r0.1).bind fun r1=>
 bif (!r1) then
  some false
 else
  bif (!r0.2.2) then
   some true
  else
   (DK r0.2.1).bind fun r2=>
   bif r2 then
    bif (!(r0.1.toList==(bs [48]).toList)) then
     (b8 r0.2.1 (bs [50])).bind fun r3=>
     bif (decide (r3≥0)) then
      (nk r0.1 r0.2.1).bind fun r4=>
      some (r4.toList==(bs [49]).toList)
     else
      some false
    else
     some false
   else
    some false
theorem G7:E1 nD (BC cQ jo bW dN):=fun _=>e1 103
def AP (b8:ae bW)(l8:ae di)(nk:ae dN)(ga:ae dq):ae jn:=fun n d=>
 (b8 d (bs [48])).bind fun r0=>
 bif (decide (r0<0)) then
  (l8 n).bind fun r1=>
  (l8 d).bind fun r2=>
  (nk r1 r2).bind fun r3=>
  bif (!(r3.toList==(bs [49]).toList)) then
   (ga r1 r3).bind fun r4=>
   (ga r2 r3).bind fun r5=>
   bif (r5.1.toList==(bs [49]).toList) then
    some r4.1
   else
    bif (Nat.ble (r4.1.size+(bs [47]).size) 9223372036854775807) then
    bif (Nat.ble ((r4.1++(bs [47])).size+r5.1.size) 9223372036854775807) then
    some ((r4.1++(bs [47]))++r5.1)
    else none
    else none
  else
   bif (r2.toList==(bs [49]).toList) then
    some r1
   else
    bif (Nat.ble (r1.size+(bs [47]).size) 9223372036854775807) then
    bif (Nat.ble ((r1++(bs [47])).size+r2.size) 9223372036854775807) then
    some ((r1++(bs [47]))++r2)
    else none
    else none
 else
  (nk n d).bind fun r6=>
  bif (!(r6.toList==(bs [49]).toList)) then
   (ga n r6).bind fun r7=>
   (ga d r6).bind fun r8=>
   bif (r8.1.toList==(bs [49]).toList) then
    some r7.1
   else
    bif (Nat.ble (r7.1.size+(bs [47]).size) 9223372036854775807) then
    bif (Nat.ble ((r7.1++(bs [47])).size+r8.1.size) 9223372036854775807) then
    some ((r7.1++(bs [47]))++r8.1)
    else none
    else none
  else
   bif (d.toList==(bs [49]).toList) then
    some n
   else
    bif (Nat.ble (n.size+(bs [47]).size) 9223372036854775807) then
    bif (Nat.ble ((n++(bs [47])).size+d.size) 9223372036854775807) then
    some ((n++(bs [47]))++d)
    else none
    else none
theorem JI:E2 jn (AP bW di dN dq):=fun _ _=>e1 138
end
noncomputable section
def iB (pQ:ae cX)(KP:ae gD):ae cX:=fun s i out=>
 bif (decide ((s.length:Int)>1)) then
  bif (decide (i<(s.length:Int))) then
   (KP s i).bind fun r0=>
   bif (aB 24 1 out.length 1) then
   pQ s (IntKind.wrap .i64 (i+1)) (out++([r0]:List (List Int)))
   else none
  else
   some out
 else
  some out
theorem j9:E3 cX (iB cX gD):=fun _ _ _=>l1 58 0
def tT (pQ:ae cX):ae bK:=fun s=>
 pQ s 0 ([]:List (List Int))
theorem AQ:E1 bK (tT cX):=fun _=>e1 58
def oh (tU:ae eM):ae eM:=fun a b i=>
 bif (decide (i<(a.length:Int))) then
  (idx a i).bind fun v0=>
  (idx b i).bind fun v1=>
  bif (decide (v0<v1)) then
   some (-1)
  else
   (idx a i).bind fun v2=>
   (idx b i).bind fun v3=>
   bif (decide (v2>v3)) then
    some 1
   else
    tU a b (IntKind.wrap .i64 (i+1))
 else
  some 0
theorem sE:E3 eM (oh eM):=fun _ _ _=>l1 59 0
def zG (tU:ae eM):ae aZ:=fun a b=>
 bif ((a.length:Int) != (b.length:Int)) then
  bif (decide ((a.length:Int)<(b.length:Int))) then
   some (-1)
  else
   some 1
 else
  tU a b 0
theorem Ft:E2 aZ (zG eM):=fun _ _=>e1 59
def qU (ma:ae fL)(BD:ae nF)(oi:ae ir):ae fL:=fun l most n i out=>
 bif (decide (i<(l.length:Int))) then
  bif (decide ((out.length:Int)<most)) then
   (idx l i).bind fun v0=>
   bif (!(n==0)) then
   bif (!(n==0)) then
   (BD out ((IntKind.wrap .i64 ((v0.tmod n)+n)).tmod n)).bind fun r1=>
   bif (!r1) then
    let e2:List Int:=([((IntKind.wrap .i64 ((v0.tmod n)+n)).tmod n)]:List Int)
    bif (aB 8 1 out.length 1) then
    ma l most n (IntKind.wrap .i64 (i+1)) (out++e2)
    else none
   else
    ma l most n (IntKind.wrap .i64 (i+1)) out
   else none
   else none
  else
   bif ((out.length:Int)==0) then
    bif (aB 8 1 out.length 1) then
    (oi (out++([0]:List Int))).bind fun r3=>
    some r3.1
    else none
   else
    (oi out).bind fun r4=>
    some r4.1
 else
  bif ((out.length:Int)==0) then
   bif (aB 8 1 out.length 1) then
   (oi (out++([0]:List Int))).bind fun r5=>
   some r5.1
   else none
  else
   (oi out).bind fun r6=>
   some r6.1
theorem xF:E5 fL (qU fL nF ir):=fun _ _ _ _ _=>l1 93 0
def DL (ma:ae fL):ae oK:=fun l most n=>
 ma l most n 0 ([]:List Int)
theorem Mv:E3 oK (DL fL):=fun _ _ _=>e1 93
def tV (tW:ae il)(BD:ae nF):ae il:=fun a b i=>
 bif (decide (i<(b.length:Int))) then
  (idx b i).bind fun v0=>
  (BD a v0).bind fun r1=>
  bif (!r1) then
   some false
  else
   tW a b (IntKind.wrap .i64 (i+1))
 else
  some true
theorem AR:E3 il (tV il nF):=fun _ _ _=>l1 97 0
def G8 (tW:ae il):ae sh:=fun a b=>
 tW a b 0
theorem P4:E2 sh (G8 il):=fun _ _=>e1 97
def eT (ka:ae bR):ae bR:=fun s k i out=>
 bif (decide (i<(s.length:Int))) then
  bif (i != k) then
   (idx s i).bind fun v0=>
   bif (aB 8 1 out.length 1) then
   ka s k (IntKind.wrap .i64 (i+1)) (out++([v0]:List Int))
   else none
  else
   ka s k (IntKind.wrap .i64 (i+1)) out
 else
  some out
theorem gq:E4 bR (eT bR):=fun _ _ _ _=>l1 101 0
def sF (ka:ae bR):ae gD:=fun s k=>
 ka s k 0 ([]:List Int)
theorem yM:E2 gD (sF bR):=fun _ _=>e1 101
def vn (vo:ae jl):ae jl:=fun a v i=>
 bif (decide (i<(a.length:Int))) then
  (idx a i).bind fun v0=>
  bif (v0==v) then
   some true
  else
   vo a v (IntKind.wrap .i64 (i+1))
 else
  some false
theorem B2:E3 jl (vn jl):=fun _ _ _=>l1 134 0
def Ji (vo:ae jl):ae nF:=fun a v=>
 vo a v 0
theorem RA:E2 nF (Ji jl):=fun _ _=>e1 134
def pR (pS:ae fe):ae dJ:=fun n i out=>
 bif (decide (i<(out.length:Int))) then
  pS n i i out
 else
  some (out,n)
theorem vS:E3 dJ (pR fe):=fun _ _ _=>l1 135 0
def pT (pS:ae fe)(kF:ae dJ):ae fe:=fun n i k out=>
 bif (decide (k>0)) then
  (idx out (IntKind.wrap .i64 (k - 1))).bind fun _=>
  (out[(IntKind.wrap .i64 (k - 1)).toNat]?).bind fun v0=>
  (idx out k).bind fun _=>
  (out[k.toNat]?).bind fun v1=>
  bif (decide (v0>v1)) then
   (idx out k).bind fun _=>
   (out[k.toNat]?).bind fun v2=>
   (idx out (IntKind.wrap .i64 (k - 1))).bind fun _=>
   (out[(IntKind.wrap .i64 (k - 1)).toNat]?).bind fun v3=>
   (idx out (IntKind.wrap .i64 (k - 1))).bind fun _=>
   (out[(IntKind.wrap .i64 (k - 1)).toNat]?).bind fun v4=>
   let e5:List Int:=(out.set (IntKind.wrap .i64 (k - 1)).toNat v2)
   (idx e5 k).bind fun _=>
   (e5[k.toNat]?).bind fun v6=>
   pS (IntKind.wrap .i64 (1 - n)) i (IntKind.wrap .i64 (k - 1)) (e5.set k.toNat v3)
  else
   kF n (IntKind.wrap .i64 (i+1)) out
 else
  kF n (IntKind.wrap .i64 (i+1)) out
theorem vT:E4 fe (pT fe dJ):=fun _ _ _ _=>l1 135 1
def B3 (kF:ae dJ):ae ir:=fun l=>
 bif (aB 8 1 0 l.length) then
 kF 0 0 (([]:List Int)++l)
 else none
theorem KQ:E1 ir (B3 dJ):=fun _=>e1 135
def yN (mc:ae fO):ae oc:=fun s m out=>
 bif (decide (0≤(s.length:Int))) then
 bif (decide (m<(shl .i64 1 (s.length:Int)))) then
  mc s m 0 out ([]:List Int)
 else
  some out
 else none
theorem IG:E3 oc (yN fO):=fun _ _ _=>l1 136 0
def qV (mc:ae fO)(pU:ae cZ)(js:ae fh):ae fO:=fun s m i out f=>
 bif (decide (i<(s.length:Int))) then
  bif (decide (0≤i)) then
  bif (((shr .i64 m i).tmod 2)==1) then
   (idx s i).bind fun v0=>
   bif (aB 8 1 f.length 1) then
   mc s m (IntKind.wrap .i64 (i+1)) out (f++([v0]:List Int))
   else none
  else
   mc s m (IntKind.wrap .i64 (i+1)) out f
  else none
 else
  (js out f).bind fun r1=>
  pU s r1 (IntKind.wrap .i64 (m+1))
theorem xG:E5 fO (qV fO cZ fh):=fun _ _ _ _ _=>l1 136 1
def pV (kG:ae fg):ae cZ:=fun s out m=>
 bif (decide (0≤(s.length:Int))) then
 bif (decide (m<(shl .i64 1 (s.length:Int)))) then
  kG s out m 0 ([]:List Int)
 else
  some out
 else none
theorem vU:E3 cZ (pV fg):=fun _ _ _=>l1 136 0
def pW (kG:ae fg)(pU:ae cZ)(js:ae fh):ae fg:=fun s out m i f=>
 bif (decide (i<(s.length:Int))) then
  bif (decide (0≤i)) then
  bif (((shr .i64 m i).tmod 2)==1) then
   (idx s i).bind fun v0=>
   bif (aB 8 1 f.length 1) then
   kG s out m (IntKind.wrap .i64 (i+1)) (f++([v0]:List Int))
   else none
  else
   kG s out m (IntKind.wrap .i64 (i+1)) f
  else none
 else
  (js out f).bind fun r1=>
  pU s r1 (IntKind.wrap .i64 (m+1))
theorem vV:E5 fg (pW fg cZ fh):=fun _ _ _ _ _=>l1 136 1
def DM (JJ:ae oc):ae jm:=fun s=>
 JJ s 1 ([]:List (List Int))
theorem Mw:E1 jm (DM oc):=fun _=>e1 136
def tX (kp:ae iu)(bt:ae aZ):ae iu:=fun l s done i out=>
 bif (decide (i<(l.length:Int))) then
  (idx l i).bind fun v0=>
  (bt s v0).bind fun r1=>
  bif (r1==0) then
   some l
  else
   bif (decide (r1<0)) then
    bif (!done) then
     bif (aB 24 1 out.length 1) then
     (idx l i).bind fun v2=>
     bif (aB 24 1 (out++([s]:List (List Int))).length 1) then
     let e3:List (List Int):=((out++([s]:List (List Int)))++([v2]:List (List Int)))
     kp l s true (IntKind.wrap .i64 (i+1)) e3
     else none
     else none
    else
     (idx l i).bind fun v4=>
     bif (aB 24 1 out.length 1) then
     kp l s done (IntKind.wrap .i64 (i+1)) (out++([v4]:List (List Int)))
     else none
   else
    (idx l i).bind fun v5=>
    bif (aB 24 1 out.length 1) then
    kp l s done (IntKind.wrap .i64 (i+1)) (out++([v5]:List (List Int)))
    else none
 else
  bif (!done) then
   bif (aB 24 1 out.length 1) then
   some (out++([s]:List (List Int)))
   else none
  else
   some out
theorem AT:E5 iu (tX iu aZ):=fun _ _ _ _ _=>l1 137 0
def G9 (kp:ae iu):ae fh:=fun l s=>
 kp l s false 0 ([]:List (List Int))
theorem P5:E2 fh (G9 iu):=fun _ _=>e1 137
def me (qW:ae dk)(qX:ae dm):ae dk:=fun s i=>
 bif (decide (i<(s.length:Int))) then
  (idx s i).bind fun v0=>
  bif (decide (v0<0)) then
   some 1
  else
   (idx s i).bind fun v1=>
   bif (decide (v1≥64)) then
    some 1
   else
    qW s (IntKind.wrap .i64 (i+1))
 else
  qX s 1
theorem pX:E2 dk (me dk dm):=fun _ _=>l1 140 0
def mf (qX:ae dm):ae dm:=fun s i=>
 bif (decide (i<(s.length:Int))) then
  (idx s i).bind fun v0=>
  (idx s (IntKind.wrap .i64 (i - 1))).bind fun v1=>
  bif (decide (v0≤v1)) then
   some 6
  else
   qX s (IntKind.wrap .i64 (i+1))
 else
  some 0
theorem pY:E2 dm (mf dm):=fun _ _=>l1 140 1
def vp (qW:ae dk):ae fB:=fun s=>
 bif ((s.length:Int)==0) then
  some 1
 else
  bif (decide ((s.length:Int)>5)) then
   some 3
  else
   qW s 0
theorem B4:E1 fB (vp dk):=fun _=>e1 140
end
noncomputable section
def qY (qZ:ae fJ):ae fJ:=fun l i out=>
 bif (decide (i<(l.length:Int))) then
  (idx l i).bind fun v0=>
  bif (aB 8 1 0 v0.length) then
  bif (aB 24 1 out.length 1) then
  let e1:List (List Int):=(out++([(([]:List Int)++v0)]:List (List Int)))
  qZ l (IntKind.wrap .i64 (i+1)) e1
  else none
  else none
 else
  some out
theorem xH:E3 fJ (qY fJ):=fun _ _ _=>l1 53 0
def DN (qZ:ae fJ):ae oH:=fun l=>
 qZ l 0 ([]:List (List Int))
theorem My:E1 oH (DN fJ):=fun _=>e1 53
def q6 (q7:ae fK)(mh:ae eD)(Ou:ae oK)(B5:ae jZ):ae fK:=fun l most dim n i Vm=>
 bif (decide (i<(l.length:Int))) then
  bif (decide (i<most)) then
   (idx l i).bind fun v0=>
   (Ou v0 (IntKind.wrap .i64 (dim+1)) n).bind fun r1=>
   bif (aB 24 1 Vm.length 1) then
   q7 l most dim n (IntKind.wrap .i64 (i+1)) (Vm++([r1]:List (List Int)))
   else none
  else
   (B5 Vm).bind fun r2=>
   mh r2 (r2.length:Int) 0 ([]:List (List Int))
 else
  (B5 Vm).bind fun r3=>
  mh r3 (r3.length:Int) 0 ([]:List (List Int))
theorem xI:E6 fK (q6 fK eD oK jZ):=fun _ _ _ _ _ _=>l1 54 0
def q8 (mh:ae eD):ae eD:=fun t t2 t3 out=>
 bif (decide (t3<t2)) then
  (idx t t3).bind fun v0=>
  bif (aB 24 1 out.length 1) then
  mh t t2 (IntKind.wrap .i64 (t3+1)) (out++([v0]:List (List Int)))
  else none
 else
  some out
theorem xJ:E4 eD (q8 eD):=fun _ _ _ _=>l1 54 1
def DO (q7:ae fK):ae oI:=fun l most dim n=>
 q7 l most dim n 0 ([]:List (List Int))
theorem Mz:E4 oI (DO fK):=fun _ _ _ _=>e1 54
def pZ (IH:ae mU)(vq:ae jm):ae eZ:=fun l i out=>
 bif (decide (i<(l.length:Int))) then
  (idx l i).bind fun v0=>
  (vq v0).bind fun r1=>
  IH l i r1 0 out
 else
  some out
theorem vW:E3 eZ (pZ mU jm):=fun _ _ _=>l1 94 0
def xK (gS:ae cm)(p0:ae eZ)(js:ae fh):ae mU:=fun l i f k out=>
 bif (decide (k<(f.length:Int))) then
  (idx f k).bind fun v0=>
  (js out v0).bind fun r1=>
  gS l r1 i f (IntKind.wrap .i64 (k+1))
 else
  p0 l (IntKind.wrap .i64 (i+1)) out
theorem Ha:E5 mU (xK cm eZ fh):=fun _ _ _ _ _=>l1 94 1
def oY (gS:ae cm)(Hb:ae fW)(js:ae fh):ae cm:=fun l out i f k=>
 bif (decide (k<(f.length:Int))) then
  (idx f k).bind fun v0=>
  (js out v0).bind fun r1=>
  gS l r1 i f (IntKind.wrap .i64 (k+1))
 else
  Hb l out (IntKind.wrap .i64 (i+1))
theorem uB:E5 cm (oY cm fW fh):=fun _ _ _ _ _=>l1 94 1
def oZ (gS:ae cm)(vq:ae jm):ae fW:=fun l out i=>
 bif (decide (i<(l.length:Int))) then
  (idx l i).bind fun v0=>
  (vq v0).bind fun r1=>
  gS l out i r1 0
 else
  some out
theorem uD:E3 fW (oZ cm jm):=fun _ _ _=>l1 94 0
def B6 (p0:ae eZ):ae jZ:=fun l=>
 p0 l 0 ([]:List (List Int))
theorem KR:E1 jZ (B6 eZ):=fun _=>e1 94
def q9 (gf:ae fN)(vr:ae fB)(bt:ae aZ)(cD:ae bK):ae eE:=fun l i=>
 bif (decide (i<(l.length:Int))) then
  (idx l i).bind fun v0=>
  (vr v0).bind fun r1=>
  bif (r1 != 0) then
   some r1
  else
   bif (decide (i>0)) then
    (idx l i).bind fun v2=>
    (idx l (IntKind.wrap .i64 (i - 1))).bind fun v3=>
    (bt v2 v3).bind fun r4=>
    bif (r4==0) then
     some 5
    else
     bif (decide (i>0)) then
      (idx l i).bind fun v5=>
      (idx l (IntKind.wrap .i64 (i - 1))).bind fun v6=>
      (bt v5 v6).bind fun r7=>
      bif (decide (r7<0)) then
       some 6
      else
       (idx l i).bind fun v8=>
       (cD v8).bind fun r9=>
       gf l i r9 0
     else
      (idx l i).bind fun v10=>
      (cD v10).bind fun r11=>
      gf l i r11 0
   else
    bif (decide (i>0)) then
     (idx l i).bind fun v12=>
     (idx l (IntKind.wrap .i64 (i - 1))).bind fun v13=>
     (bt v12 v13).bind fun r14=>
     bif (decide (r14<0)) then
      some 6
     else
      (idx l i).bind fun v15=>
      (cD v15).bind fun r16=>
      gf l i r16 0
    else
     (idx l i).bind fun v17=>
     (cD v17).bind fun r18=>
     gf l i r18 0
 else
  some 0
theorem xL:E2 eE (q9 fN fB aZ bK):=fun _ _=>l1 96 0
def ra (gf:ae fN)(rb:ae eE)(Ov:ae oM):ae fN:=fun l i f k=>
 bif (decide (k<(f.length:Int))) then
  (idx f k).bind fun v0=>
  (Ov l v0).bind fun r1=>
  bif (decide (r1<0)) then
   some 7
  else
   gf l i f (IntKind.wrap .i64 (k+1))
 else
  rb l (IntKind.wrap .i64 (i+1))
theorem xM:E4 fN (ra fN eE oM):=fun _ _ _ _=>l1 96 1
def DP (rb:ae eE):ae oL:=fun l=>
 bif (decide ((l.length:Int)>1024)) then
  some 3
 else
  rb l 0
theorem MA:E1 oL (DP eE):=fun _=>e1 96
def yO (rf:ae fP)(bt:ae aZ):ae fP:=fun l s i=>
 bif (decide (i<(l.length:Int))) then
  (idx l i).bind fun v0=>
  (bt v0 s).bind fun r1=>
  bif (r1==0) then
   some i
  else
   rf l s (IntKind.wrap .i64 (i+1))
 else
  some (-1)
theorem II:E3 fP (yO fP aZ):=fun _ _ _=>l1 141 0
def DQ (rf:ae fP):ae oM:=fun l s=>
 rf l s 0
theorem MB:E2 oM (DQ fP):=fun _ _=>e1 141
end
noncomputable section
def rh (mi:ae fH)(DR:ae oJ)(TH:ae uo):ae fH:=fun values c i at0=>
 bif (decide (i<(c.length:Int))) then
  bif (decide ((values.length:Int)>0)) then
   bif (!((values.length:Int)==0)) then
   (idx values (i.tmod (values.length:Int))).bind fun v0=>
   bif (!((values.length:Int)==0)) then
   let e1:Int:=(IntKind.wrap .i64 (i.tdiv (values.length:Int)))
   (DR (IntKind.wrap .i64 (v0+e1))).bind fun r2=>
   bif (aB 16 1 at0.length 1) then
   mi values c (IntKind.wrap .i64 (i+1)) (at0++([r2]:List ByteArray))
   else none
   else none
   else none
  else
   (DR i).bind fun r3=>
   bif (aB 16 1 at0.length 1) then
   mi values c (IntKind.wrap .i64 (i+1)) (at0++([r3]:List ByteArray))
   else none
 else
  (TH c at0).bind fun r4=>
  some r4.1
theorem xN:E4 fH (rh fH oJ uo):=fun _ _ _ _=>l1 32 0
def DT (mi:ae fH)(Ow:ae oI)(Ox:ae oH):ae oF:=fun l values most dim n=>
 (Ow l most dim n).bind fun r0=>
 (Ox r0).bind fun r1=>
 mi values r1 0 ([]:List ByteArray)
theorem MC:E5 oF (DT fH oI oH):=fun _ _ _ _ _=>e1 32
def DV (JK:ae fM):ae oJ:=fun n=>
 let e0:Int:=(IntKind.wrap .i64 ((n.tmod 24)+24))
 let e1:Int:=(IntKind.wrap .i64 ((e0.tmod 24) - 8))
 (JK e1 4).bind fun r2=>
 some r2
theorem MD:E1 oJ (DV fM):=fun _=>e1 55
def vt (vu:ae jc)(vv:ae gN)(vw:ae fy):ae jc:=fun l values i=>
 bif (decide (i<(values.length:Int))) then
  (idx values i).bind fun v0=>
  (vw v0).bind fun r1=>
  bif (!r1) then
   some (([]:List ((List Int)×ByteArray×Unit)),(1:Int))
  else
   vu l values (IntKind.wrap .i64 (i+1))
 else
  vv l values 0 ([]:List ((List Int)×ByteArray×Unit))
theorem B7:E3 jc (vt jc gN fy):=fun _ _ _=>l1 56 0
def vz (lE:ae jd)(ME:ae j0):ae gN:=fun l values i out=>
 bif (decide (i<(l.length:Int))) then
  (idx values i).bind fun v0=>
  lE l values i v0 0 out
 else
  (ME out).bind fun r1=>
  some (r1,(0:Int))
theorem B8:E4 gN (vz jd j0):=fun _ _ _ _=>l1 56 1
def vA (lE:ae jd)(vv:ae gN)(RC:ae sh)(jW:ae bV):ae jd:=fun l values i at0 k out=>
 bif (decide (k<(l.length:Int))) then
  (idx l i).bind fun v0=>
  (idx l k).bind fun v1=>
  (RC v0 v1).bind fun r2=>
  bif r2 then
   (idx values k).bind fun v3=>
   (jW v3 at0).bind fun r4=>
   bif (decide (r4>0)) then
    (idx values k).bind fun v5=>
    lE l values i v5 (IntKind.wrap .i64 (k+1)) out
   else
    lE l values i at0 (IntKind.wrap .i64 (k+1)) out
  else
   lE l values i at0 (IntKind.wrap .i64 (k+1)) out
 else
  (idx l i).bind fun v6=>
  let e7:List ((List Int)×ByteArray×Unit):=([(v6,(at0,()))]:List ((List Int)×ByteArray×Unit))
  bif (aB 40 2 out.length 1) then
  vv l values (IntKind.wrap .i64 (i+1)) (out++e7)
  else none
theorem B9:E6 jd (vA jd gN sh bV):=fun _ _ _ _ _ _=>l1 56 2
def Jj (vu:ae jc)(Oy:ae oL):ae uo:=fun l values=>
 (Oy l).bind fun r0=>
 bif (r0 != 0) then
  some (([]:List ((List Int)×ByteArray×Unit)),r0)
 else
  bif ((values.length:Int) != (l.length:Int)) then
   some (([]:List ((List Int)×ByteArray×Unit)),(10:Int))
  else
   vu l values 0
theorem RD:E2 uo (Jj jc oL):=fun _ _=>e1 56
def mj (ri:ae dg)(P6:ae kj)(cD:ae bK):ae cz:=fun f i=>
 bif (decide (i<(f.length:Int))) then
  (P6 f i).bind fun r0=>
  bif (r0 != 0) then
   some r0
  else
   (idx f i).bind fun v1=>
   (cD v1.1).bind fun r2=>
   ri f i r2 0
 else
  some 0
theorem p5:E2 cz (mj dg kj bK):=fun _ _=>l1 57 0
def ml (ri:ae dg)(mn:ae cz)(vB:ae eA)(jW:ae bV):ae dg:=fun f i ij k=>
 bif (decide (k<(ij.length:Int))) then
  (idx ij k).bind fun v0=>
  (vB f i v0).bind fun r1=>
  bif (decide (r1<0)) then
   some 7
  else
   ri f i ij (IntKind.wrap .i64 (k+1))
 else
  bif (decide (i>0)) then
   (idx f i).bind fun v2=>
   (idx f (IntKind.wrap .i64 (i - 1))).bind fun v3=>
   (jW v2.2.1 v3.2.1).bind fun r4=>
   bif (decide (r4<0)) then
    some 6
   else
    mn f (IntKind.wrap .i64 (i+1))
  else
   mn f (IntKind.wrap .i64 (i+1))
theorem p6:E4 dg (ml dg cz eA bV):=fun _ _ _ _=>l1 57 1
def vC (mn:ae cz):ae je:=fun f=>
 bif (decide ((f.length:Int)>1024)) then
  some 3
 else
  mn f 0
theorem Ca:E1 je (vC cz):=fun _=>e1 57
def p7 (kH:ae dI):ae bF:=fun out i aj pg=>
 (ag pg out).bind fun v0=>
 bif (decide (i<(v0.length:Int))) then
  kH out i i aj pg
 else
  (typed (hs [] [] [] [] aj [] [] [] pg [] []) (.slice (.st (.pair zV (.pair (.str) (.unit))))) (rc (.ref 8) out)).bind fun v1=>
  some v1
theorem vX:E4 bF (p7 dI):=fun _ _ _ _=>l1 98 0
def p8 (iC:ae bF)(kH:ae dI)(jW:ae bV)(bt:ae aZ):ae dI:=fun out i k aj pg=>
 bif (decide (k>0)) then
  (ag pg out).bind fun v0=>
  (idx v0 k).bind fun _=>
  (ag pg out).bind fun v1=>
  (v1[k.toNat]?).bind fun v2=>
  (ag pg out).bind fun v3=>
  (idx v3 (IntKind.wrap .i64 (k - 1))).bind fun _=>
  (ag pg out).bind fun v4=>
  (v4[(IntKind.wrap .i64 (k - 1)).toNat]?).bind fun v5=>
  (jW v2.2.1 v5.2.1).bind fun r6=>
  bif (decide (r6>0)) then
   iC out (IntKind.wrap .i64 (i+1)) aj pg
  else
   bif (r6==0) then
    (ag pg out).bind fun v7=>
    (idx v7 k).bind fun _=>
    (ag pg out).bind fun v8=>
    (v8[k.toNat]?).bind fun v9=>
    (ag pg out).bind fun v10=>
    (idx v10 (IntKind.wrap .i64 (k - 1))).bind fun _=>
    (ag pg out).bind fun v11=>
    (v11[(IntKind.wrap .i64 (k - 1)).toNat]?).bind fun v12=>
    (typed (hs [] [] [] [] aj [] [] [] pg [] []) zV (.rv (.cv ⟨.ref 4,v9.1⟩))).bind fun v13=>
    (typed (hs [] [] [] [] aj [] [] [] pg [] []) zV (.rv (.cv ⟨.ref 4,v12.1⟩))).bind fun v14=>
    (bt v13 v14).bind fun r15=>
    bif (decide (r15>0)) then
     iC out (IntKind.wrap .i64 (i+1)) aj pg
    else
     (ag pg out).bind fun v16=>
     (idx v16 (IntKind.wrap .i64 (k - 1))).bind fun _=>
     (ag pg out).bind fun v17=>
     (v17[(IntKind.wrap .i64 (k - 1)).toNat]?).bind fun v18=>
     (ag pg out).bind fun v19=>
     (idx v19 k).bind fun _=>
     (ag pg out).bind fun v20=>
     (v20[k.toNat]?).bind fun v21=>
     (ag pg out).bind fun v22=>
     (idx v22 k).bind fun _=>
     (ag pg out).bind fun v23=>
     (v23[k.toNat]?).bind fun v24=>
     let e25:H8:=(ef pg out (v23.set k.toNat (v18.1,(v18.2.1,()))))
     (ag e25 out).bind fun v26=>
     (idx v26 (IntKind.wrap .i64 (k - 1))).bind fun _=>
     (ag e25 out).bind fun v27=>
     (v27[(IntKind.wrap .i64 (k - 1)).toNat]?).bind fun v28=>
     let e29:H8:=(ef e25 out (v27.set (IntKind.wrap .i64 (k - 1)).toNat (v21.1,(v21.2.1,()))))
     kH out i (IntKind.wrap .i64 (k - 1)) aj e29
   else
    (ag pg out).bind fun v30=>
    (idx v30 (IntKind.wrap .i64 (k - 1))).bind fun _=>
    (ag pg out).bind fun v31=>
    (v31[(IntKind.wrap .i64 (k - 1)).toNat]?).bind fun v32=>
    (ag pg out).bind fun v33=>
    (idx v33 k).bind fun _=>
    (ag pg out).bind fun v34=>
    (v34[k.toNat]?).bind fun v35=>
    (ag pg out).bind fun v36=>
    (idx v36 k).bind fun _=>
    (ag pg out).bind fun v37=>
    (v37[k.toNat]?).bind fun v38=>
    let e39:H8:=(ef pg out (v37.set k.toNat (v32.1,(v32.2.1,()))))
    (ag e39 out).bind fun v40=>
    (idx v40 (IntKind.wrap .i64 (k - 1))).bind fun _=>
    (ag e39 out).bind fun v41=>
    (v41[(IntKind.wrap .i64 (k - 1)).toNat]?).bind fun v42=>
    let e43:H8:=(ef e39 out (v41.set (IntKind.wrap .i64 (k - 1)).toNat (v35.1,(v35.2.1,()))))
    kH out i (IntKind.wrap .i64 (k - 1)) aj e43
 else
  iC out (IntKind.wrap .i64 (i+1)) aj pg
theorem vY:E5 dI (p8 bF dI bV aZ):=fun _ _ _ _ _=>l1 98 1
def Cb (iC:ae bF)(MF:ae mY):ae j0:=fun l=>
 (MF l ([]:H8) ([]:H4)).bind fun r0=>
 iC r0.1 0 r0.2.2 r0.2.1
theorem KS:E1 j0 (Cb bF mY):=fun _=>e1 98
def xO (vr:ae fB)(vw:ae fy)(vB:ae eA):ae kj:=fun f i=>
 (idx f i).bind fun v0=>
 (vr v0.1).bind fun r1=>
 bif (r1 != 0) then
  some r1
 else
  (idx f i).bind fun v2=>
  (vw v2.2.1).bind fun r3=>
  bif (!r3) then
   some 1
  else
   (idx f i).bind fun v4=>
   (vB f i v4.1).bind fun r5=>
   bif (decide (r5≥0)) then
    some 5
   else
    some 0
theorem DW:E2 kj (xO fB fy eA):=fun _ _=>e1 99
def mo (rj:ae cA)(bt:ae aZ):ae cA:=fun f n s i=>
 bif (decide (i<n)) then
  (idx f i).bind fun v0=>
  (bt v0.1 s).bind fun r1=>
  bif (r1==0) then
   some i
  else
   rj f n s (IntKind.wrap .i64 (i+1))
 else
  some (-1)
theorem p9:E4 cA (mo cA aZ):=fun _ _ _ _=>l1 100 0
def qa (rj:ae cA):ae eA:=fun f n s=>
 rj f n s 0
theorem tY:E3 eA (qa cA):=fun _ _ _=>e1 100
def qb (fC:ae fi):ae fi:=fun l out i aj pg=>
 bif (decide (i<(l.length:Int))) then
  (idx l i).bind fun v0=>
  (ag (aj++[some ([]:List Int)]) (aj.length+1:Nat)).bind fun v1=>
  bif (aB 8 1 v1.length v0.1.length) then
  bif v0.1.isEmpty then
   (idx l i).bind fun v2=>
   let e3:H8:=(pg++[some ([((aj.length+1:Nat),(v2.2.1,()))]:List (Nat×ByteArray×Unit))])
   (ag e3 out).bind fun v4=>
   (ag e3 (pg.length+1:Nat)).bind fun v5=>
   bif (aB 40 2 v4.length v5.length) then
   bif v5.isEmpty then
    fC l out (IntKind.wrap .i64 (i+1)) (aj++[some ([]:List Int)]) e3
   else
    fC l ((cw e3 out).length+1:Nat) (IntKind.wrap .i64 (i+1)) (aj++[some ([]:List Int)]) ((cw e3 out)++[some (v4++v5)])
   else none
  else
   let e6:H4:=((cw (aj++[some ([]:List Int)]) (aj.length+1:Nat))++[some (v1++v0.1)])
   let e7:Nat:=((cw (aj++[some ([]:List Int)]) (aj.length+1:Nat)).length+1:Nat)
   (idx l i).bind fun v8=>
   let e9:H8:=(pg++[some ([(e7,(v8.2.1,()))]:List (Nat×ByteArray×Unit))])
   (ag e9 out).bind fun v10=>
   (ag e9 (pg.length+1:Nat)).bind fun v11=>
   bif (aB 40 2 v10.length v11.length) then
   bif v11.isEmpty then
    fC l out (IntKind.wrap .i64 (i+1)) e6 e9
   else
    fC l ((cw e9 out).length+1:Nat) (IntKind.wrap .i64 (i+1)) e6 ((cw e9 out)++[some (v10++v11)])
   else none
  else none
 else
  some (out,(pg,aj))
theorem vZ:E5 fi (qb fi):=fun _ _ _ _ _=>l1 142 0
def Cc (fC:ae fi):ae mY:=fun l pg aj=>
 fC l (0:Nat) 0 aj pg
theorem KT:E3 mY (Cc fi):=fun _ _ _=>e1 142
end
noncomputable section
def rk (rl:ae fF):ae eB:=fun n x x2 x3 x4 t t2 c c2=>
 bif (decide ((IntKind.wrap .i64 (n+2))<(x4.length:Int))) then
  bif (decide (n<24)) then
   bif (decide ((c2.length:Int)>0)) then
    (idx x4 n).bind fun v0=>
    bif (!((c2.length:Int)==0)) then
    let e1:Int:=(IntKind.wrap .i64 ((v0.tmod (c2.length:Int))+(c2.length:Int)))
    bif (!((c2.length:Int)==0)) then
    (idx x4 (IntKind.wrap .i64 (n+1))).bind fun v2=>
    bif (!((IntKind.wrap .i64 (c - 1))==0)) then
    let e3:Int:=(IntKind.wrap .i64 ((v2.tmod (IntKind.wrap .i64 (c - 1)))+c))
    bif (!((IntKind.wrap .i64 (c - 1))==0)) then
    let e4:Int:=((IntKind.wrap .i64 (e3 - 1)).tmod (IntKind.wrap .i64 (c - 1)))
    let e5:Int:=(IntKind.wrap .i64 ((e1.tmod (c2.length:Int)) - 1))
    rl n (e1.tmod (c2.length:Int)) (IntKind.wrap .i64 (1+e4)) e5 x x2 x3 x4 t t2 c c2
    else none
    else none
    else none
    else none
   else
    some (c,(c2,()))
  else
   some (c,(c2,()))
 else
  some (c,(c2,()))
theorem xP:E9 eB (rk fF):=fun _ _ _ _ _ _ _ _ _=>l1 14 0
def rm (rl:ae fF)(gg:ae eB)(Fu:ae qw):ae fF:=fun n j k i x x2 x3 x4 t t2 c c2=>
 bif (decide (i≥0)) then
  (idx c2 i).bind fun v0=>
  (idx c2 j).bind fun v1=>
  bif (v0.1 != v1.1) then
   rl n j k (IntKind.wrap .i64 (i - 1)) x x2 x3 x4 t t2 c c2
  else
   bif (decide (i≥0)) then
    (idx x4 (IntKind.wrap .i64 (n+2))).bind fun v2=>
    bif (!(c==0)) then
    bif (!(c==0)) then
    (Fu (c,(c2,())) i j k ((IntKind.wrap .i64 ((v2.tmod c)+c)).tmod c)).bind fun r3=>
    gg (IntKind.wrap .i64 (n+3)) x x2 x3 x4 t t2 r3.1 r3.2.1
    else none
    else none
   else
    gg (IntKind.wrap .i64 (n+3)) x x2 x3 x4 t t2 c c2
 else
  bif (decide (i≥0)) then
   (idx x4 (IntKind.wrap .i64 (n+2))).bind fun v4=>
   bif (!(c==0)) then
   bif (!(c==0)) then
   (Fu (c,(c2,())) i j k ((IntKind.wrap .i64 ((v4.tmod c)+c)).tmod c)).bind fun r5=>
   gg (IntKind.wrap .i64 (n+3)) x x2 x3 x4 t t2 r5.1 r5.2.1
   else none
   else none
  else
   gg (IntKind.wrap .i64 (n+3)) x x2 x3 x4 t t2 c c2
theorem xQ:E12 fF (rm fF eB qw):=fun _ _ _ _ _ _ _ _ _ _ _ _=>l1 14 1
def DY (gg:ae eB)(Oz:ae oF)(OA:ae oG)(BB:ae jx):ae oD:=fun x most=>
 let e0:Int:=(bif decide (40<(x.1.length:Int)) then 40 else (x.1.length:Int))
 bif (dW x.1.length 0 e0) then
 (Oz (cut x.1 0 e0) x.2.1 5 3 6).bind fun r1=>
 let e2:Int:=(bif decide (most<(r1.length:Int)) then most else (r1.length:Int))
 bif (dW r1.length 0 e2) then
 (OA x.2.2.1).bind fun r3=>
 (BB (cut r1 0 e2) r3).bind fun r4=>
 gg 0 x.1 x.2.1 x.2.2.1 x.2.2.2.1 0 (0:Nat) r4.1.1 r4.1.2.1
 else none
 else none
theorem MG:E2 oD (DY eB oF oG jx):=fun _ _=>e1 14
def qc (qd:ae eW):ae eW:=fun i c c2 t t2 out aG sY=>
 bif (decide (i<(c2.length:Int))) then
  (idx c2 i).bind fun v0=>
  bif (aB 16 2 0 v0.2.2.1.length) then
  let e1:J0:=([(v0.1,(v0.2.1,((([]:kn)++v0.2.2.1),())))]:J0)
  (ag sY aG).bind fun v2=>
  bif (aB 48 3 v2.length 1) then
  qd (IntKind.wrap .i64 (i+1)) c c2 t t2 out ((cw sY aG).length+1:Nat) ((cw sY aG)++[some (v2++e1)])
  else none
  else none
 else
  (typed (hs ([]) [] [] [] [] [] [] [] [] [] []) yG (.rv (.agg [⟨zI,out⟩,⟨.ref 0,aG⟩]))).bind fun v3=>
  some (v3,sY)
theorem wa:E8 eW (qc eW):=fun _ _ _ _ _ _ _ _=>l1 15 0
def Cd (qd:ae eW):ae mR:=fun c sY=>
 qd 0 c.1 c.2.1 0 (0:Nat) c.1 (0:Nat) sY
theorem KU:E2 mR (Cd eW):=fun _ _=>e1 15
def rq (ry:ae fG)(IJ:ae gI)(P7:ae qx):ae fG:=fun n r i j c c2 aj ar=>
 bif (decide (j<n)) then
  (ag ar r).bind fun v0=>
  (idx v0 i).bind fun _=>
  (ag ar r).bind fun v1=>
  (v1[i.toNat]?).bind fun v2=>
  (P7 (c,(c2,())) i j).bind fun r3=>
  (ag aj v2).bind fun v4=>
  (idx v4 (IntKind.wrap .i64 (j+1))).bind fun _=>
  (ag aj v2).bind fun v5=>
  (v5[(IntKind.wrap .i64 (j+1)).toNat]?).bind fun v6=>
  let e7:H4:=(ef aj v2 (v5.set (IntKind.wrap .i64 (j+1)).toNat r3))
  ry n r i (IntKind.wrap .i64 (j+1)) c c2 e7 ar
 else
  IJ n r (IntKind.wrap .i64 (i+1)) c c2 aj ar
theorem xR:E8 fG (rq fG gI qx):=fun _ _ _ _ _ _ _ _=>l1 29 1
def qe (ry:ae fG)(qf:ae cV):ae gI:=fun n r i c c2 aj ar=>
 bif (decide (i≤n)) then
  bif (ic 8 (IntKind.wrap .i64 (n+1)) (IntKind.wrap .i64 (n+1))) then
  let e0:H4:=(aj++[some (List.replicate (IntKind.wrap .i64 (n+1)).toNat 0)])
  (ag ar r).bind fun v1=>
  (idx v1 i).bind fun _=>
  (ag ar r).bind fun v2=>
  (v2[i.toNat]?).bind fun v3=>
  let e4:Wo:=(ef ar r (v2.set i.toNat (aj.length+1:Nat)))
  ry n r i 0 c c2 e0 e4
  else none
 else
  bif (ic 8 n n) then
  bif (ic 1 n n) then
  qf n r 0 (List.replicate n.toNat 0) (List.replicate n.toNat false) aj ar
  else none
  else none
theorem wb:E7 gI (qe fG cV):=fun _ _ _ _ _ _ _=>l1 29 0
def qg (kI:ae b5)(kJ:ae dH):ae cV:=fun n r i eY used aj ar=>
 bif (decide (i<n)) then
  (idx eY i).bind fun _=>
  (eY[i.toNat]?).bind fun v0=>
  kI n r i 0 (eY.set i.toNat (-1)) used aj ar
 else
  kJ n 0 eY used ([]:kn) aj ar
theorem wc:E7 cV (qg b5 dH):=fun _ _ _ _ _ _ _=>l1 29 2
def qh (kI:ae b5)(qf:ae cV):ae b5:=fun n r i j eY used aj ar=>
 bif (decide (j<n)) then
  (ag ar r).bind fun v0=>
  (idx v0 i).bind fun _=>
  (ag ar r).bind fun v1=>
  (v1[i.toNat]?).bind fun v2=>
  (ag aj v2).bind fun v3=>
  (idx v3 (IntKind.wrap .i64 (j+1))).bind fun _=>
  (ag aj v2).bind fun v4=>
  (v4[(IntKind.wrap .i64 (j+1)).toNat]?).bind fun v5=>
  (ag ar r).bind fun v6=>
  (idx v6 (IntKind.wrap .i64 (i+1))).bind fun _=>
  (ag ar r).bind fun v7=>
  (v7[(IntKind.wrap .i64 (i+1)).toNat]?).bind fun v8=>
  (ag aj v8).bind fun v9=>
  (idx v9 (IntKind.wrap .i64 (j+1))).bind fun _=>
  (ag aj v8).bind fun v10=>
  (v10[(IntKind.wrap .i64 (j+1)).toNat]?).bind fun v11=>
  (ag ar r).bind fun v12=>
  (idx v12 i).bind fun _=>
  (ag ar r).bind fun v13=>
  (v13[i.toNat]?).bind fun v14=>
  (ag aj v14).bind fun v15=>
  (idx v15 j).bind fun _=>
  (ag aj v14).bind fun v16=>
  (v16[j.toNat]?).bind fun v17=>
  let e18:Int:=(IntKind.wrap .i64 ((IntKind.wrap .i64 (v5 - v11)) - v17))
  (ag ar r).bind fun v19=>
  (idx v19 (IntKind.wrap .i64 (i+1))).bind fun _=>
  (ag ar r).bind fun v20=>
  (v20[(IntKind.wrap .i64 (i+1)).toNat]?).bind fun v21=>
  (ag aj v21).bind fun v22=>
  (idx v22 j).bind fun _=>
  (ag aj v21).bind fun v23=>
  (v23[j.toNat]?).bind fun v24=>
  bif ((IntKind.wrap .i64 (e18+v24))==1) then
   (idx eY i).bind fun _=>
   (eY[i.toNat]?).bind fun v25=>
   (idx used j).bind fun _=>
   (used[j.toNat]?).bind fun v26=>
   kI n r i (IntKind.wrap .i64 (j+1)) (eY.set i.toNat j) (used.set j.toNat true) aj ar
  else
   kI n r i (IntKind.wrap .i64 (j+1)) eY used aj ar
 else
  qf n r (IntKind.wrap .i64 (i+1)) eY used aj ar
theorem we:E8 b5 (qh b5 cV):=fun _ _ _ _ _ _ _ _=>l1 29 3
def qi (kJ:ae dH):ae dH:=fun n i eY used out aj ar=>
 bif (decide (i<n)) then
  (idx used i).bind fun _=>
  (used[i.toNat]?).bind fun v0=>
  bif (!v0) then
   (idx eY i).bind fun _=>
   (eY[i.toNat]?).bind fun v1=>
   bif (aB 16 2 out.length 1) then
   let e2:kn:=(out++([(i,(v1,()))]:kn))
   kJ n (IntKind.wrap .i64 (i+1)) eY used e2 aj ar
   else none
  else
   kJ n (IntKind.wrap .i64 (i+1)) eY used out aj ar
 else
  some out
theorem wg:E7 dH (qi dH):=fun _ _ _ _ _ _ _=>l1 29 4
def DZ (JL:ae BO):ae oE:=fun c=>
 let e0:Int:=(IntKind.wrap .i64 ((c.2.1.length:Int)+1))
 bif (ic 24 e0 e0) then
 let e1:Wo:=(([]:Wo)++[some (List.replicate e0.toNat (0:Nat))])
 let e2:Nat:=(([]:Wo).length+1:Nat)
 JL (c.2.1.length:Int) e2 0 c.1 c.2.1 e1
 else none
theorem MH:E1 oE (DZ BO):=fun _=>e1 29
def sG (lF:ae b6):ae b6:=fun a b i=>
 bif (decide (i<(a.length:Int))) then
  (idx a i).bind fun v0=>
  (idx b i).bind fun v1=>
  bif (!(CU yT (v0.1,(v0.2.1,())) (v1.1,(v1.2.1,())))) then
   some false
  else
   lF a b (IntKind.wrap .i64 (i+1))
 else
  some true
theorem CJ:E3 b6 (sG b6):=fun _ _ _=>l1 30 0
def wh (lF:ae b6):ae fV:=fun a b=>
 bif ((a.length:Int) != (b.length:Int)) then
  some false
 else
  lF a b 0
theorem Gj:E2 fV (wh b6):=fun _ _=>e1 30
def D0 (vD:ae gJ)(cD:ae bK):ae ja:=fun f p j t t2 out aG=>
 bif (decide (j<(f.length:Int))) then
  bif (ic 8 j j) then
  let e0:H4:=(([]:H4)++[some (List.replicate j.toNat 0)])
  let e1:Nat:=(([]:H4).length+1:Nat)
  (idx f j).bind fun v2=>
  (cD v2.1).bind fun r3=>
  vD f p j e1 r3 0 t t2 out aG e0
  else none
 else
  (Rp (typed h0 yH (.rv (.agg [⟨zI,out⟩,⟨.ref 0,aG⟩]))) (some 0)).bind fun v4=>
  some v4
theorem MI:E7 ja (D0 gJ bK):=fun _ _ _ _ _ _ _=>l1 33 0
def D1 (qj:ae gK)(tZ:ae cW)(dV:ae aT):ae gJ:=fun f p j v ij k t t2 out aG aj=>
 bif (decide (k<(ij.length:Int))) then
  qj f p j v ij k 0 t t2 out aG aj
 else
  (idx f j).bind fun v0=>
  let e1:Int:=(IntKind.wrap .i64 ((v0.1.length:Int) - 1))
  (idx f j).bind fun v2=>
  (dV v aj).bind fun r3=>
  let e4:J0:=([(e1,(v2.2.1,(r3,())))]:J0)
  (ag ([]:H0) aG).bind fun v5=>
  bif (aB 48 3 v5.length 1) then
  let e6:H0:=((cw ([]:H0) aG)++[some (v5++e4)])
  let e7:Nat:=((cw ([]:H0) aG).length+1:Nat)
  tZ f p (IntKind.wrap .i64 (j+1)) t t2 out e7 e6 aj
  else none
theorem MJ:E11 gJ (D1 gK cW aT):=fun _ _ _ _ _ _ _ _ _ _ _=>l1 33 1
def D2 (qj:ae gK)(vD:ae gJ)(bt:ae aZ):ae gK:=fun f p j v ij k i t t2 out aG aj=>
 bif (decide (i<j)) then
  (idx f i).bind fun v0=>
  (idx ij k).bind fun v1=>
  (bt v0.1 v1).bind fun r2=>
  bif (r2==0) then
   let e3:Int:=(IntKind.wrap .i64 ((k.tmod 2)*(IntKind.wrap .i64 (p - 2))))
   bif (!(p==0)) then
   (ag aj v).bind fun v4=>
   (idx v4 i).bind fun _=>
   (ag aj v).bind fun v5=>
   (v5[i.toNat]?).bind fun v6=>
   let e7:H4:=(ef aj v (v5.set i.toNat ((IntKind.wrap .i64 (1+e3)).tmod p)))
   qj f p j v ij k (IntKind.wrap .i64 (i+1)) t t2 out aG e7
   else none
  else
   qj f p j v ij k (IntKind.wrap .i64 (i+1)) t t2 out aG aj
 else
  vD f p j v ij (IntKind.wrap .i64 (k+1)) t t2 out aG aj
theorem MK:E12 gK (D2 gK gJ aZ):=fun _ _ _ _ _ _ _ _ _ _ _ _=>l1 33 2
def oo (ua:ae dC)(cD:ae bK):ae cW:=fun f p j t t2 out aG sY aj=>
 bif (decide (j<(f.length:Int))) then
  bif (ic 8 j j) then
  let e0:H4:=(aj++[some (List.replicate j.toNat 0)])
  (idx f j).bind fun v1=>
  (cD v1.1).bind fun r2=>
  ua f p j (aj.length+1:Nat) r2 0 t t2 out aG sY e0
  else none
 else
  (Rp (typed (hs sY [] [] [] aj [] [] [] [] [] []) yH (.rv (.agg [⟨zI,out⟩,⟨.ref 0,aG⟩]))) (some 0)).bind fun v3=>
  some v3
theorem sH:E9 cW (oo dC bK):=fun _ _ _ _ _ _ _ _ _=>l1 33 0
def oq (ot:ae eL)(tZ:ae cW)(dV:ae aT):ae dC:=fun f p j v ij k t t2 out aG sY aj=>
 bif (decide (k<(ij.length:Int))) then
  ot f p j v ij k 0 t t2 out aG sY aj
 else
  (idx f j).bind fun v0=>
  let e1:Int:=(IntKind.wrap .i64 ((v0.1.length:Int) - 1))
  (idx f j).bind fun v2=>
  (dV v aj).bind fun r3=>
  let e4:J0:=([(e1,(v2.2.1,(r3,())))]:J0)
  (ag sY aG).bind fun v5=>
  bif (aB 48 3 v5.length 1) then
  tZ f p (IntKind.wrap .i64 (j+1)) t t2 out ((cw sY aG).length+1:Nat) ((cw sY aG)++[some (v5++e4)]) aj
  else none
theorem sI:E12 dC (oq eL cW aT):=fun _ _ _ _ _ _ _ _ _ _ _ _=>l1 33 1
def ou (ot:ae eL)(ua:ae dC)(bt:ae aZ):ae eL:=fun f p j v ij k i t t2 out aG sY aj=>
 bif (decide (i<j)) then
  (idx f i).bind fun v0=>
  (idx ij k).bind fun v1=>
  (bt v0.1 v1).bind fun r2=>
  bif (r2==0) then
   let e3:Int:=(IntKind.wrap .i64 ((k.tmod 2)*(IntKind.wrap .i64 (p - 2))))
   bif (!(p==0)) then
   (ag aj v).bind fun v4=>
   (idx v4 i).bind fun _=>
   (ag aj v).bind fun v5=>
   (v5[i.toNat]?).bind fun v6=>
   let e7:H4:=(ef aj v (v5.set i.toNat ((IntKind.wrap .i64 (1+e3)).tmod p)))
   ot f p j v ij k (IntKind.wrap .i64 (i+1)) t t2 out aG sY e7
   else none
  else
   ot f p j v ij k (IntKind.wrap .i64 (i+1)) t t2 out aG sY aj
 else
  ua f p j v ij (IntKind.wrap .i64 (k+1)) t t2 out aG sY aj
theorem sJ:E13 eL (ou eL dC aZ):=fun _ _ _ _ _ _ _ _ _ _ _ _ _=>l1 33 2
def BE (OB:ae ja)(OC:ae gL)(OD:ae je):ae jx:=fun f p=>
 (OC p).bind fun r0=>
 bif (!r0) then
  (Rp (typed h0 yH (.rv (.agg [⟨zI,(0:Int)⟩,⟨.ref 0,(0:Nat)⟩]))) (some 8)).bind fun v1=>
  some v1
 else
  (OD f).bind fun r2=>
  bif (r2 != 0) then
   (Rp (typed h0 yH (.rv (.agg [⟨zI,(0:Int)⟩,⟨.ref 0,(0:Nat)⟩]))) (some r2)).bind fun v3=>
   some v3
  else
   OB f p 0 0 (0:Nat) p (0:Nat)
theorem Hc:E2 jx (BE ja gL je):=fun _ _=>e1 33
def D3:ae oG:=fun n=>
 let e0:List Int:=([2,(3:Int),(5:Int),(2:Int),(251:Int),(7:Int)]:List Int)
 let e1:Int:=(IntKind.wrap .i64 ((n.tmod 6)+6))
 (idx e0 (e1.tmod 6)).bind fun _=>
 (e0[(e1.tmod 6).toNat]?).bind fun v2=>
 some v2
theorem ML:E1 oG D3:=fun _=>e1 34
def sK (sL:ae gw)(sM:ae gz)(dV:ae aT):ae gw:=fun i j k m inv v a b n c c2 t t2 out aG sY aj=>
 (ag aj v).bind fun v0=>
 bif (decide (n<(v0.length:Int))) then
  (idx a n).bind fun v1=>
  (idx b n).bind fun v2=>
  let e3:Int:=(IntKind.wrap .i64 ((IntKind.wrap .i64 (k*v1))+(IntKind.wrap .i64 (m*v2))))
  bif (!(c==0)) then
  (ag aj v).bind fun v4=>
  (idx v4 n).bind fun _=>
  (ag aj v).bind fun v5=>
  (v5[n.toNat]?).bind fun v6=>
  sL i j k m inv v a b (IntKind.wrap .i64 (n+1)) c c2 t t2 out aG sY (ef aj v (v5.set n.toNat (e3.tmod c)))
  else none
 else
  (dV v aj).bind fun r7=>
  (ag sY aG).bind fun v8=>
  (idx v8 j).bind fun _=>
  (ag sY aG).bind fun v9=>
  (v9[j.toNat]?).bind fun v10=>
  let WH:H0:=(ef sY aG (v9.set j.toNat (v10.1,(v10.2.1,(r7,())))))
  sM i j m inv (IntKind.wrap .i64 (j+1)) c c2 t t2 out aG WH aj
theorem yP:E17 gw (sK gw gz aT):=fun _ _ _ _ _ _ _ _ _ _ _ _ _ _ _ _ _=>l1 35 0
def sN (sM:ae gz)(Hd:ae iY)(dV:ae aT):ae gz:=fun i j m inv n c c2 t t2 out aG sY aj=>
 bif (decide (n<(c2.length:Int))) then
  (idx c2 n).bind fun v0=>
  (Hd v0.2.2.1 (c2.length:Int) aj).bind fun r1=>
  (ag r1.2 r1.1).bind fun v2=>
  (idx v2 i).bind fun _=>
  (ag r1.2 r1.1).bind fun v3=>
  (v3[i.toNat]?).bind fun v4=>
  (ag r1.2 r1.1).bind fun v5=>
  (idx v5 j).bind fun _=>
  (ag r1.2 r1.1).bind fun v6=>
  (v6[j.toNat]?).bind fun v7=>
  let e8:Int:=(IntKind.wrap .i64 ((IntKind.wrap .i64 (c - 1))*v7))
  bif (!(c==0)) then
  bif (!(c==0)) then
  let e9:Int:=(IntKind.wrap .i64 (((IntKind.wrap .i64 ((e8.tmod c)*inv)).tmod c)*m))
  bif (!(c==0)) then
  (ag r1.2 r1.1).bind fun v10=>
  (idx v10 i).bind fun _=>
  (ag r1.2 r1.1).bind fun v11=>
  (v11[i.toNat]?).bind fun v12=>
  let Ze:H4:=(ef r1.2 r1.1 (v11.set i.toNat ((IntKind.wrap .i64 (v4+e9)).tmod c)))
  (ag Ze r1.1).bind fun v14=>
  (idx v14 j).bind fun _=>
  (ag Ze r1.1).bind fun v15=>
  (v15[j.toNat]?).bind fun v16=>
  bif (!(c==0)) then
  (ag Ze r1.1).bind fun v17=>
  (idx v17 j).bind fun _=>
  (ag Ze r1.1).bind fun v18=>
  (v18[j.toNat]?).bind fun v19=>
  let e20:H4:=(ef Ze r1.1 (v18.set j.toNat ((IntKind.wrap .i64 (v16*inv)).tmod c)))
  (dV r1.1 e20).bind fun r21=>
  (ag sY aG).bind fun v22=>
  (idx v22 n).bind fun _=>
  (ag sY aG).bind fun v23=>
  (v23[n.toNat]?).bind fun v24=>
  let e25:H0:=(ef sY aG (v23.set n.toNat (v24.1,(v24.2.1,(r21,())))))
  sM i j m inv (IntKind.wrap .i64 (n+1)) c c2 t t2 out aG e25 e20
  else none
  else none
  else none
  else none
 else
  (typed (hs sY [] [] [] aj [] [] [] [] [] []) yH (.rv (.agg [⟨zI,out⟩,⟨.ref 0,aG⟩]))).bind fun v26=>
  some v26
theorem yQ:E13 gz (sN gz iY aT):=fun _ _ _ _ _ _ _ _ _ _ _ _ _=>l1 35 1
def Fv (sL:ae gw)(MM:ae mR)(np:ae gC)(qk:ae jb):ae qw:=fun c i j k m=>
 (MM (c.1,(c.2.1,())) ([]:H0)).bind fun r0=>
 (np c.1 k).bind fun r1=>
 bif (ic 8 (c.2.1.length:Int) (c.2.1.length:Int)) then
 let e2:H4:=(([]:H4)++[some (List.replicate (c.2.1.length:Int).toNat 0)])
 let e3:Nat:=(([]:H4).length+1:Nat)
 (idx c.2.1 j).bind fun v4=>
 (qk v4.2.2.1 (c.2.1.length:Int)).bind fun r5=>
 (idx c.2.1 i).bind fun v6=>
 (qk v6.2.2.1 (c.2.1.length:Int)).bind fun r7=>
 sL i j k m r1 e3 r5 r7 0 c.1 c.2.1 0 (0:Nat) r0.1.1 r0.1.2.1 r0.2 e2
 else none
theorem OE:E5 qw (Fv gw mR gC jb):=fun _ _ _ _ _=>e1 35
def rz (rA:ae eC):ae eC:=fun p k=>
 bif (decide (k<p)) then
  bif (decide (p≤251)) then
   bif (!(k==0)) then
   bif ((p.tmod k)==0) then
    some false
   else
    rA p (IntKind.wrap .i64 (k+1))
   else none
  else
   bif (decide (p≥2)) then
    some (decide (p≤251))
   else
    some false
 else
  bif (decide (p≥2)) then
   some (decide (p≤251))
  else
   some false
theorem xS:E2 eC (rz eC):=fun _ _=>l1 36 0
def vE (rA:ae eC):ae gL:=fun p=>
 rA p 2
theorem Cf:E1 gL (vE eC):=fun _=>e1 36
def rB (rC:ae fI):ae fI:=fun x i out=>
 bif (decide (i<(x.length:Int))) then
  (idx x i).bind fun v0=>
  (idx x i).bind fun v1=>
  (idx out v0.1).bind fun _=>
  (out[v0.1.toNat]?).bind fun v2=>
  rC x (IntKind.wrap .i64 (i+1)) (out.set v0.1.toNat v1.2.1)
 else
  some out
theorem xT:E3 fI (rB fI):=fun _ _ _=>l1 38 0
def D4 (rC:ae fI):ae jb:=fun x n=>
 bif (ic 8 n n) then
 rC x 0 (List.replicate n.toNat 0)
 else none
theorem MN:E2 jb (D4 fI):=fun _ _=>e1 38
def sO (sP:ae gB)(qk:ae jb)(MO:ae jY):ae gB:=fun i j k m c c2=>
 bif (decide (k≤j)) then
  (idx c2 k).bind fun v0=>
  (qk v0.2.2.1 (c2.length:Int)).bind fun r1=>
  bif (dW r1.length i (r1.length:Int)) then
  let e2:List (List Int):=([(cut r1 i (r1.length:Int))]:List (List Int))
  bif (aB 24 1 m.length 1) then
  sP i j (IntKind.wrap .i64 (k+1)) (m++e2) c c2
  else none
  else none
 else
  (MO c m).bind fun r3=>
  some r3
theorem yS:E6 gB (sO gB jb jY):=fun _ _ _ _ _ _=>l1 52 0
def Fw (sP:ae gB):ae qx:=fun c i j=>
 sP i j 0 ([]:List (List Int)) c.1 c.2.1
theorem OF:E3 qx (Fw gB):=fun _ _ _=>e1 52
def o5 (o6:ae eH):ae eH:=fun p a b=>
 bif (decide (b<p)) then
  bif (!(p==0)) then
  bif (((IntKind.wrap .i64 (a*b)).tmod p)==1) then
   some b
  else
   o6 p a (IntKind.wrap .i64 (b+1))
  else none
 else
  some 0
theorem uE:E3 eH (o5 eH):=fun _ _ _=>l1 60 0
def AU (o6:ae eH):ae gC:=fun p a=>
 o6 p a 1
theorem JM:E2 gC (AU eH):=fun _ _=>e1 60
def o7 (kb:ae iX)(eU:ae aJ):ae iX:=fun p m rows i aj ar=>
 bif (decide (i<(m.length:Int))) then
  (idx m i).bind fun v0=>
  (ag (aj++[some ([]:List Int)]) (aj.length+1:Nat)).bind fun v1=>
  bif (aB 8 1 v1.length v0.length) then
  bif v0.isEmpty then
   let e2:Wo:=(ar++[some ([(aj.length+1:Nat)]:List Nat)])
   (ag e2 rows).bind fun v3=>
   (ag e2 (ar.length+1:Nat)).bind fun v4=>
   bif (aB 24 1 v3.length v4.length) then
   bif v4.isEmpty then
    kb p m rows (IntKind.wrap .i64 (i+1)) (aj++[some ([]:List Int)]) e2
   else
    kb p m ((cw e2 rows).length+1:Nat) (IntKind.wrap .i64 (i+1)) (aj++[some ([]:List Int)]) ((cw e2 rows)++[some (v3++v4)])
   else none
  else
   let e5:H4:=((cw (aj++[some ([]:List Int)]) (aj.length+1:Nat))++[some (v1++v0)])
   let e6:Nat:=((cw (aj++[some ([]:List Int)]) (aj.length+1:Nat)).length+1:Nat)
   (ag (ar++[some ([e6]:List Nat)]) rows).bind fun v7=>
   (ag (ar++[some ([e6]:List Nat)]) (ar.length+1:Nat)).bind fun v8=>
   bif (aB 24 1 v7.length v8.length) then
   bif v8.isEmpty then
    kb p m rows (IntKind.wrap .i64 (i+1)) e5 (ar++[some ([e6]:List Nat)])
   else
    let e9:Wo:=((cw (ar++[some ([e6]:List Nat)]) rows)++[some (v7++v8)])
    let Y9:Nat:=((cw (ar++[some ([e6]:List Nat)]) rows).length+1:Nat)
    kb p m Y9 (IntKind.wrap .i64 (i+1)) e5 e9
   else none
  else none
 else
  eU p rows 0 0 aj ar
theorem uF:E6 iX (o7 iX aJ):=fun _ _ _ _ _ _=>l1 92 0
def kc (o8:ae bp):ae aJ:=fun p rows kv col aj ar=>
 (ag ar rows).bind fun v0=>
 bif (decide (kv<(v0.length:Int))) then
  (ag ar rows).bind fun v1=>
  (idx v1 0).bind fun _=>
  (ag ar rows).bind fun v2=>
  (v2[(0:Int).toNat]?).bind fun v3=>
  (ag aj v3).bind fun v4=>
  bif (decide (col<(v4.length:Int))) then
   o8 p rows kv col kv aj ar
  else
   some kv
 else
  some kv
theorem nO:E6 aJ (kc bp):=fun _ _ _ _ _ _=>l1 92 1
def kd (o8:ae bp)(eU:ae aJ)(gT:ae bQ)(np:ae gC):ae bp:=fun p rows kv col pivot aj ar=>
 (ag ar rows).bind fun v0=>
 bif (decide (pivot<(v0.length:Int))) then
  (ag ar rows).bind fun v1=>
  (idx v1 pivot).bind fun _=>
  (ag ar rows).bind fun v2=>
  (v2[pivot.toNat]?).bind fun v3=>
  (ag aj v3).bind fun v4=>
  (idx v4 col).bind fun _=>
  (ag aj v3).bind fun v5=>
  (v5[col.toNat]?).bind fun v6=>
  bif (v6==0) then
   o8 p rows kv col (IntKind.wrap .i64 (pivot+1)) aj ar
  else
   (ag ar rows).bind fun v7=>
   bif (pivot==(v7.length:Int)) then
    eU p rows kv (IntKind.wrap .i64 (col+1)) aj ar
   else
    (ag ar rows).bind fun v8=>
    (idx v8 pivot).bind fun _=>
    (ag ar rows).bind fun v9=>
    (v9[pivot.toNat]?).bind fun v10=>
    (ag ar rows).bind fun v11=>
    (idx v11 kv).bind fun _=>
    (ag ar rows).bind fun v12=>
    (v12[kv.toNat]?).bind fun v13=>
    (ag ar rows).bind fun v14=>
    (idx v14 kv).bind fun _=>
    (ag ar rows).bind fun v15=>
    (v15[kv.toNat]?).bind fun v16=>
    (ag (ef ar rows (v15.set kv.toNat v10)) rows).bind fun v17=>
    (idx v17 pivot).bind fun _=>
    (ag (ef ar rows (v15.set kv.toNat v10)) rows).bind fun v18=>
    (v18[pivot.toNat]?).bind fun v19=>
    let e20:Wo:=(ef (ef ar rows (v15.set kv.toNat v10)) rows (v18.set pivot.toNat v13))
    (ag e20 rows).bind fun v21=>
    (idx v21 kv).bind fun _=>
    (ag e20 rows).bind fun v22=>
    (v22[kv.toNat]?).bind fun v23=>
    (ag aj v23).bind fun v24=>
    (idx v24 col).bind fun _=>
    (ag aj v23).bind fun v25=>
    (v25[col.toNat]?).bind fun v26=>
    (np p v26).bind fun r27=>
    gT p rows kv col r27 (IntKind.wrap .i64 (kv+1)) aj e20
 else
  (ag ar rows).bind fun v28=>
  bif (pivot==(v28.length:Int)) then
   eU p rows kv (IntKind.wrap .i64 (col+1)) aj ar
  else
   (ag ar rows).bind fun v29=>
   (idx v29 pivot).bind fun _=>
   (ag ar rows).bind fun v30=>
   (v30[pivot.toNat]?).bind fun v31=>
   (ag ar rows).bind fun v32=>
   (idx v32 kv).bind fun _=>
   (ag ar rows).bind fun v33=>
   (v33[kv.toNat]?).bind fun v34=>
   (ag ar rows).bind fun v35=>
   (idx v35 kv).bind fun _=>
   (ag ar rows).bind fun v36=>
   (v36[kv.toNat]?).bind fun v37=>
   (ag (ef ar rows (v36.set kv.toNat v31)) rows).bind fun v38=>
   (idx v38 pivot).bind fun _=>
   (ag (ef ar rows (v36.set kv.toNat v31)) rows).bind fun v39=>
   (v39[pivot.toNat]?).bind fun v40=>
   let e41:Wo:=(ef (ef ar rows (v36.set kv.toNat v31)) rows (v39.set pivot.toNat v34))
   (ag e41 rows).bind fun v42=>
   (idx v42 kv).bind fun _=>
   (ag e41 rows).bind fun v43=>
   (v43[kv.toNat]?).bind fun v44=>
   (ag aj v44).bind fun v45=>
   (idx v45 col).bind fun _=>
   (ag aj v44).bind fun v46=>
   (v46[col.toNat]?).bind fun v47=>
   (np p v47).bind fun r48=>
   gT p rows kv col r48 (IntKind.wrap .i64 (kv+1)) aj e41
theorem nP:E7 bp (kd bp aJ bQ gC):=fun _ _ _ _ _ _ _=>l1 92 2
def o9 (pa:ae dd)(eU:ae aJ):ae bQ:=fun p rows kv col inv i aj ar=>
 (ag ar rows).bind fun v0=>
 bif (decide (i<(v0.length:Int))) then
  (ag ar rows).bind fun v1=>
  (idx v1 i).bind fun _=>
  (ag ar rows).bind fun v2=>
  (v2[i.toNat]?).bind fun v3=>
  (ag aj v3).bind fun v4=>
  (idx v4 col).bind fun _=>
  (ag aj v3).bind fun v5=>
  (v5[col.toNat]?).bind fun v6=>
  bif (!(p==0)) then
  let e7:Int:=(IntKind.wrap .i64 (p - ((IntKind.wrap .i64 (v6*inv)).tmod p)))
  bif (!(p==0)) then
  pa p rows kv col inv i (e7.tmod p) col aj ar
  else none
  else none
 else
  eU p rows (IntKind.wrap .i64 (kv+1)) (IntKind.wrap .i64 (col+1)) aj ar
theorem uG:E8 bQ (o9 dd aJ):=fun _ _ _ _ _ _ _ _=>l1 92 3
def ke (pa:ae dd)(gT:ae bQ):ae dd:=fun p rows kv col inv i k j aj ar=>
 bif (decide (k>0)) then
  (ag ar rows).bind fun v0=>
  (idx v0 i).bind fun _=>
  (ag ar rows).bind fun v1=>
  (v1[i.toNat]?).bind fun v2=>
  (ag aj v2).bind fun v3=>
  bif (decide (j<(v3.length:Int))) then
   (ag ar rows).bind fun v4=>
   (idx v4 i).bind fun _=>
   (ag ar rows).bind fun v5=>
   (v5[i.toNat]?).bind fun v6=>
   (ag ar rows).bind fun v7=>
   (idx v7 i).bind fun _=>
   (ag ar rows).bind fun v8=>
   (v8[i.toNat]?).bind fun v9=>
   (ag aj v9).bind fun v10=>
   (idx v10 j).bind fun _=>
   (ag aj v9).bind fun v11=>
   (v11[j.toNat]?).bind fun v12=>
   (ag ar rows).bind fun v13=>
   (idx v13 kv).bind fun _=>
   (ag ar rows).bind fun v14=>
   (v14[kv.toNat]?).bind fun v15=>
   (ag aj v15).bind fun v16=>
   (idx v16 j).bind fun _=>
   (ag aj v15).bind fun v17=>
   (v17[j.toNat]?).bind fun v18=>
   let e19:Int:=(IntKind.wrap .i64 (v12+(IntKind.wrap .i64 (k*v18))))
   bif (!(p==0)) then
   (ag aj v6).bind fun v20=>
   (idx v20 j).bind fun _=>
   (ag aj v6).bind fun v21=>
   (v21[j.toNat]?).bind fun v22=>
   pa p rows kv col inv i k (IntKind.wrap .i64 (j+1)) (ef aj v6 (v21.set j.toNat (e19.tmod p))) ar
   else none
  else
   gT p rows kv col inv (IntKind.wrap .i64 (i+1)) aj ar
 else
  gT p rows kv col inv (IntKind.wrap .i64 (i+1)) aj ar
theorem nQ:E10 dd (ke dd bQ):=fun _ _ _ _ _ _ _ _ _ _=>l1 92 4
def Cg (IK:ae AE):ae jY:=fun p m=>
 IK p m (0:Nat) 0
theorem KV:E2 jY (Cg AE):=fun _ _=>e1 92
def lG (lH:ae c9):ae c9:=fun x out i aj=>
 bif (decide (i<(x.length:Int))) then
  (idx x i).bind fun v0=>
  (idx x i).bind fun v1=>
  (ag aj out).bind fun v2=>
  (idx v2 v0.1).bind fun _=>
  (ag aj out).bind fun v3=>
  (v3[v0.1.toNat]?).bind fun v4=>
  lH x out (IntKind.wrap .i64 (i+1)) (ef aj out (v3.set v0.1.toNat v1.2.1))
 else
  some (out,aj)
theorem rO:E4 c9 (lG c9):=fun _ _ _ _=>l1 102038 0
def wk (lH:ae c9):ae iY:=fun x n aj=>
 bif (ic 8 n n) then
 let e0:H4:=(aj++[some (List.replicate n.toNat 0)])
 lH x (aj.length+1:Nat) 0 e0
 else none
theorem Gk:E3 iY (wk c9):=fun _ _ _=>e1 102038
def iU (iV:ae bN):ae bN:=fun v i out aj=>
 (ag aj v).bind fun v0=>
 bif (decide (i<(v0.length:Int))) then
  (ag aj v).bind fun v1=>
  (idx v1 i).bind fun _=>
  (ag aj v).bind fun v2=>
  (v2[i.toNat]?).bind fun v3=>
  bif (v3 != 0) then
   (ag aj v).bind fun v4=>
   (idx v4 i).bind fun _=>
   (ag aj v).bind fun v5=>
   (v5[i.toNat]?).bind fun v6=>
   bif (aB 16 2 out.length 1) then
   let e7:kn:=(out++([(i,(v6,()))]:kn))
   iV v (IntKind.wrap .i64 (i+1)) e7 aj
   else none
  else
   iV v (IntKind.wrap .i64 (i+1)) out aj
 else
  some out
theorem lI:E4 bN (iU bN):=fun _ _ _ _=>l1 100040 0
def ql (iV:ae bN):ae aT:=fun v aj=>
 iV v 0 ([]:kn) aj
theorem wm:E2 aT (ql bN):=fun _ _=>e1 100040
end
noncomputable section
def iW (mG:ae bJ):ae bJ:=fun a b i=>
 bif (decide (i<(a.length:Int))) then
  (idx a i).bind fun v0=>
  (idx b i).bind fun v1=>
  bif (!(CU yT (v0.1,(v0.2.1,())) (v1.1,(v1.2.1,())))) then
   some false
  else
   mG a b (IntKind.wrap .i64 (i+1))
 else
  some true
theorem lJ:E3 bJ (iW bJ):=fun _ _ _=>l1 23 0
def qm (mG:ae bJ):ae cU:=fun a b=>
 bif ((a.length:Int) != (b.length:Int)) then
  some false
 else
  mG a b 0
theorem wo:E2 cU (qm bJ):=fun _ _=>e1 23
end
noncomputable section
end
noncomputable section
def Fx (w:Nat):ae slices_SortFunc:=fun x hp=>XW x hp
theorem D5 (w:Nat):Fx w=slices_SortFunc:=funext fun x=>funext fun hp=>(Fa T B lf 50 ((x,()),hp)).symm
def D6 (w:Nat):ae mT:=fun s=>bif aB 16 2 0 s.length then some s else none
theorem Jk (w:Nat):D6 w=mT:=funext fun s=>(Fa T B lf 84 s).symm
def wq (w:Nat):ae fY:=fun s c=>bif decide (0≤c)&&decide (c<256) then some (WJ c 0 s.data.toList) else none
theorem Gl (w:Nat):wq w=fY:=funext fun s=>funext fun c=>(Fa T B lf 165 (s,c)).symm
def wu:=yB bJ fun w x=>iW x
theorem Gm:∀w,wu w=bJ:=mkLe fun _=>(x3 lJ)
def xU:=jv cU fun w=>qm (wu w)
theorem He:∀w,xU w=cU:=bE fun w=>by rw[Gm w];exact(x2 wo)
def uH:=yB b6 fun w x=>sG x
theorem EF:∀w,uH w=b6:=mkLe fun _=>(x3 CJ)
def wx:=jv fV fun w=>wh (uH w)
theorem Gn:∀w,wx w=fV:=bE fun w=>by rw[EF w];exact(x2 Gj)
def Jl:=yB iH fun w x=>Fp x
theorem RE:∀w,Jl w=iH:=mkLe fun _=>(x3 Oq)
def KW:=jv sZ fun w=>KN (Jl w)
theorem TJ:∀w,KW w=sZ:=bE fun w=>by rw[RE w];exact(x1 TF)
def Ch:=yB eC fun w x=>rz x
theorem KX:∀w,Ch w=eC:=mkLe fun _=>(x2 xS)
def vF:=jv gL fun w=>vE (Ch w)
theorem Ci:∀w,vF w=gL:=bE fun w=>by rw[KX w];exact(x1 Cf)
def Fy:=yB eM fun w x=>oh x
theorem OG:∀w,Fy w=eM:=mkLe fun _=>(x3 sE)
def ti:=jv aZ fun w=>zG (Fy w)
theorem Fz:∀w,ti w=aZ:=bE fun w=>by rw[OG w];exact(x2 Ft)
def Cj:=yB dh fun w x=>l9 x
theorem KY:∀w,Cj w=dh:=mkLe fun _=>(x2 pP)
def qn:=jv cQ fun w=>vm (Cj w)
theorem ub:∀w,qn w=cQ:=bE fun w=>by rw[KY w];exact(x1 B1)
def Nw:=yB jy fun w x=>uQ x
theorem Vs:∀w,Nw w=jy:=mkLe fun _=>(x2 zr)
def xV:=jv ln fun w=>Ix (Nw w)
theorem Ai:∀w,xV w=ln:=bE fun w=>by rw[Vs w];exact(x1 Ns)
def Jm:=yB gu fun w x=>rM x
theorem RF:∀w,Jm w=gu:=mkLe fun _=>(x5 u9)
def D7:=jv ku fun w=>Di (Jm w) (xV w)
theorem Jn:∀w,D7 w=ku:=bE fun w=>by rw[RF w];rw[Ai w];exact(x2 Jf)
def Jo:=jv qD fun w=>Bl
theorem RG:∀w,Jo w=qD:=bE fun _=>(x2 GQ)
def Jp:=jv qE fun w=>Bm
theorem RH:∀w,Jp w=qE:=bE fun _=>(x3 GR)
def XY:=yB ta fun w x=>Fh x
theorem adD:∀w,XY w=ta:=mkLe fun _=>(x5 Iy)
def KZ:=jv wY fun w=>Vp (XY w)
theorem Ma:∀w,KZ w=wY:=bE fun w=>by rw[adD w];exact(x1 XX)
def zJ:=jv ik fun w=>zw
theorem FA:∀w,zJ w=ik:=bE fun _=>(x1 Fk)
def BG:=jv jz fun w=>Bw (zJ w) (KZ w)
theorem Hf:∀w,BG w=jz:=bE fun w=>by rw[FA w,Ma w];exact(x1 G0)
def FB:=yB (dD,eN,dE,dF) fun w x=>(od x.2.1 x.2.2.1,oe x.2.1 x.1,tI x.2.2.1 x.2.2.2,tJ x.2.2.2)
theorem OH:∀w,FB w=(dD,eN,dE,dF):=mkLe fun w=>by exact Prod.ext (x6 su) (Prod.ext (x8 sx) (Prod.ext (x3 AG) ((x3 AH))))
def Hg:=jv lr fun w=>zx (FB w).1
theorem P8:∀w,Hg w=lr:=bE fun w=>by rw[OH w];exact(x1 Fl)
def xW:=jv jf fun w=>Iv
theorem Nx:∀w,xW w=jf:=bE fun _=>(x1 Nq)
def Ck:=yB cA fun w x=>mo x (ti w)
theorem K0:∀w,Ck w=cA:=mkLe fun w=>by rw[Fz w];exact(x4 p9)
def vG:=jv eA fun w=>qa (Ck w)
theorem Cm:∀w,vG w=eA:=bE fun w=>by rw[K0 w];exact(x3 tY)
def yU:=yB bR fun w x=>eT x
theorem IL:∀w,yU w=bR:=mkLe fun _=>(x4 gq)
def AW:=jv gD fun w=>sF (yU w)
theorem JN:∀w,AW w=gD:=bE fun w=>by rw[IL w];exact(x2 yM)
def SY:=yB mV fun w x=>Ab x
theorem Zg:∀w,SY w=mV:=mkLe fun _=>(x3 Dr)
def OI:=jv w6 fun w=>Oe (SY w)
theorem SZ:∀w,OI w=w6:=bE fun w=>by rw[Zg w];exact(x2 SR)
def P9:=yB kx fun w x=>Dt x
theorem WO:∀w,P9 w=kx:=mkLe fun _=>(x2 Jh)
def S0:=jv CO fun w=>KG (P9 w)
theorem Zh:∀w,S0 w=CO:=bE fun w=>by rw[WO w];exact(x2 PY)
def S1:=yB pk fun w x=>kQ x
theorem Zi:∀w,S1 w=pk:=mkLe fun _=>(x3 lB)
def Vt:=jv Dd fun w=>Of (S1 w)
theorem abE:∀w,Vt w=Dd:=bE fun w=>by rw[Zi w];exact(x1 SU)
def S2:=yB mX fun w x=>Ac x
theorem Zj:∀w,S2 w=mX:=mkLe fun _=>(x1 Dw)
def D8:=jv mW fun w=>Oh (S2 w)
theorem FC:∀w,D8 w=mW:=bE fun w=>by rw[Zj w];exact(x1 SV)
def RJ:=jv Fb fun w=>L9 (xV w)
theorem Vu:∀w,RJ w=Fb:=bE fun w=>by rw[Ai w];exact(x1 Oa)
def rP:=jv ee fun w=>xl
theorem vH:∀w,rP w=ee:=bE fun _=>(x2 Dl)
def D9:=yB fa fun w x=>jV x (D7 w)
theorem MP:∀w,D9 w=fa:=mkLe fun w=>by rw[Jn w];exact(x4 lS)
def FD:=jv mJ fun w=>xi (D9 w)
theorem OJ:∀w,FD w=mJ:=bE fun w=>by rw[MP w];exact(x2 Dj)
def Cn:=yB (dk,dm) fun w x=>(me x.1 x.2,mf x.2)
theorem K1:∀w,Cn w=(dk,dm):=mkLe fun w=>by exact Prod.ext (x2 pX) ((x2 pY))
def Ea:=jv fB fun w=>vp (Cn w).1
theorem MQ:∀w,Ea w=fB:=bE fun w=>by rw[K1 w];exact(x1 B4)
def Co:=yB cC fun w x=>lY x
theorem K2:∀w,Co w=cC:=mkLe fun _=>(x2 pN)
def Eb:=jv jo fun w=>vh (Co w)
theorem MR:∀w,Eb w=jo:=bE fun w=>by rw[K2 w];exact(x1 BV)
def Ec:=yB dO fun w x=>ng x
theorem MS:∀w,Ec w=dO:=mkLe fun _=>(x3 qP)
def rQ:=jv du fun w=>xy (Ec w)
theorem vI:∀w,rQ w=du:=bE fun w=>by rw[MS w];exact(x2 DG)
def Ed:=yB dP fun w x=>ni x
theorem MT:∀w,Ed w=dP:=mkLe fun _=>(x1 qQ)
def kf:=jv bk fun w=>xz (Ed w)
theorem lK:∀w,kf w=bk:=bE fun w=>by rw[MT w];exact(x1 DH)
def Cq:=jv iw fun w=>tN (wq w)
theorem K3:∀w,Cq w=iw:=bE fun w=>by rw[Gl w];exact(x2 AJ)
def Qa:=yB ky fun w x=>xo x
theorem WQ:∀w,Qa w=ky:=mkLe fun _=>(x5 Bz)
def K4:=jv tb fun w=>KJ (Qa w)
theorem Qb:∀w,K4 w=tb:=bE fun w=>by rw[WQ w];exact(x2 P0)
def Ct:=yB dp fun w x=>qI x
theorem K5:∀w,Ct w=dp:=mkLe fun _=>(x4 xm)
def Ee:=jv kV fun w=>va (Ct w) (rP w)
theorem MU:∀w,Ee w=kV:=bE fun w=>by rw[K5 w];rw[vH w];exact(x3 BR)
def Jq:=jv qF fun w=>Bq
theorem RK:∀w,Jq w=qF:=bE fun _=>(x2 GU)
def uc:=jv eO fun w=>tS
theorem AX:∀w,uc w=eO:=bE fun _=>(x1 AO)
def wy:=jv fZ fun w=>oR
theorem Gp:∀w,wy w=fZ:=bE fun _=>(x2 uy)
def Ny:=yB jA fun w x=>uS x
theorem Vv:∀w,Ny w=jA:=mkLe fun _=>(x6 zD)
def Qc:=jv u5 fun w=>IB (Ny w)
theorem WS:∀w,Qc w=u5:=bE fun w=>by rw[Vv w];exact(x2 Nu)
def Ef:=yB dQ fun w x=>dK x
theorem MV:∀w,Ef w=dQ:=mkLe fun _=>(x3 eI)
def FE:=jv mK fun w=>xk (Ef w)
theorem OK:∀w,FE w=mK:=bE fun w=>by rw[MV w];exact(x2 Dk)
def uI:=yB bB fun w x=>iA x (kf w)
theorem EG:∀w,uI w=bB:=mkLe fun w=>by rw[lK w];exact(x5 kE)
def pb:=jv aV fun w=>oX (uI w)
theorem uJ:∀w,pb w=aV:=bE fun w=>by rw[EG w];exact(x2 uA)
def Cu:=yB dr fun w x=>qJ x
theorem K6:∀w,Cu w=dr:=mkLe fun _=>(x2 xp)
def Eg:=jv gP fun w=>ve (Cu w)
theorem MW:∀w,Eg w=gP:=bE fun w=>by rw[K6 w];exact(x1 BT)
def FF:=yB eP fun w x=>ko x
theorem OL:∀w,FF w=eP:=mkLe fun _=>(x5 nj)
def Hh:=jv ix fun w=>zF (FF w)
theorem Qd:∀w,Hh w=ix:=bE fun w=>by rw[OL w];exact(x2 Fq)
def FG:=jv mL fun w=>xf
theorem OM:∀w,FG w=mL:=bE fun _=>(x1 Dg)
def AY:=yB c7 fun w x=>kz x
theorem JO:∀w,AY w=c7:=mkLe fun _=>(x3 oO)
def Cv:=jv j5 fun w=>tD (AY w)
theorem K7:∀w,Cv w=j5:=bE fun w=>by rw[JO w];exact(x1 AF)
def Eh:=jv kW fun w=>u7
theorem MX:∀w,Eh w=kW:=bE fun _=>(x1 BQ)
def yV:=yB (bT,cp) fun w x=>(j6 x.2,j8 x.2 x.1)
theorem IM:∀w,yV w=(bT,cp):=mkLe fun w=>by exact Prod.ext (x4 nG) ((x7 nH))
def A0:=jv jr fun w=>sj (yV w).1
theorem JP:∀w,A0 w=jr:=bE fun w=>by rw[IM w];exact(x1 yD)
def wz:=yB bN fun w x=>iU x
theorem Gq:∀w,wz w=bN:=mkLe fun _=>(x4 lI)
def qo:=jv aT fun w=>ql (wz w)
theorem Hi:∀w,qo w=aT:=bE fun w=>by rw[Gq w];exact(x2 wm)
def wA:=yB bO fun w x=>iS x (Jo w)
theorem Gr:∀w,wA w=bO:=mkLe fun w=>by rw[RG w];exact(x4 lC)
def xX:=jv gQ fun w=>pG (wA w)
theorem Hj:∀w,xX w=gQ:=bE fun w=>by rw[Gr w];exact(x2 vO)
def wB:=yB bP fun w x=>iT x (Jp w)
theorem Gs:∀w,wB w=bP:=mkLe fun w=>by rw[RH w];exact(x8 lD)
def xY:=jv gR fun w=>pH (wB w)
theorem Hk:∀w,xY w=gR:=bE fun w=>by rw[Gs w];exact(x2 vP)
def A3:=yB cX fun w x=>iB x (AW w)
theorem JQ:∀w,A3 w=cX:=mkLe fun w=>by rw[JN w];exact(x3 j9)
def ov:=jv bK fun w=>tT (A3 w)
theorem A4:∀w,ov w=bK:=bE fun w=>by rw[JQ w];exact(x1 AQ)
def uT:=jv gp fun w=>Bt (OI w)
theorem zK:∀w,uT w=gp:=bE fun w=>by rw[SZ w];exact(x2 GX)
def IN:=jv aaa fun w=>N9 (RJ w) (rP w)
theorem K8:∀w,IN w=aaa:=bE fun w=>by rw[Vu w,vH w];exact(x2 SO)
def A5:=yB cY fun w x=>kB x (kf w)
theorem JR:∀w,A5 w=cY:=mkLe fun w=>by rw[lK w];exact(x4 oS)
def fS:=jv ax fun w=>tO (A5 w)
theorem gU:∀w,fS w=ax:=bE fun w=>by rw[JR w];exact(x1 AM)
def Ei:=yB dM fun w x=>nc x
theorem MY:∀w,Ei w=dM:=mkLe fun _=>(x3 qO)
def fU:=jv aw fun w=>xw (Ei w) (kf w)
theorem jt:∀w,fU w=aw:=bE fun w=>by rw[MY w];rw[lK w];exact(x2 DE)
def FH:=jv mI fun w=>xq (Cq w)
theorem ON:∀w,FH w=mI:=bE fun w=>by rw[K3 w];exact(x2 DC)
def CK:=jv jh fun w=>IA (D8 w)
theorem Gt:∀w,CK w=jh:=bE fun w=>by rw[FC w];exact(x2 Nt)
def A6:=jv ji fun w=>sq (Ee w)
theorem JS:∀w,A6 w=ji:=bE fun w=>by rw[MU w];exact(x2 yE)
def K9:=yB iq fun w x=>tg x
theorem TK:∀w,K9 w=iq:=mkLe fun _=>(x4 xj)
def Nz:=jv si fun w=>F8 (K9 w) (Jq w) (FE w)
theorem Vw:∀w,Nz w=si:=bE fun w=>by rw[TK w];rw[RK w,OK w];exact(x4 KE)
def sQ:=yB (c5,c6) fun w x=>(kC x.1 (fU w),kD x.2 (fU w))
theorem JT:∀w,sQ w=(c5,c6):=mkLe fun w=>by rw[jt w];exact Prod.ext (x2 oT) ((x2 oU))
def kq:=jv bL fun w=>tQ (sQ w).1 (sQ w).2
theorem nq:∀w,kq w=bL:=bE fun w=>by rw[JT w];exact(x1 AN)
def FI:=jv iI fun w=>xx (uc w)
theorem OO:∀w,FI w=iI:=bE fun w=>by rw[AX w];exact(x1 DF)
def Cw:=yB dn fun w x=>lZ x
theorem La:∀w,Cw w=dn:=mkLe fun _=>(x3 pO)
def qp:=jv dy fun w=>vi (Cw w) (uc w)
theorem ud:∀w,qp w=dy:=bE fun w=>by rw[La w];rw[AX w];exact(x1 BW)
def wC:=jv fX fun w=>oQ (wy w)
theorem Gu:∀w,wC w=fX:=bE fun w=>by rw[Gp w];exact(x2 ux)
def S3:=yB (fj,jT,gO,kO) fun w x=>(Ad x.2.1 (K4 w),Af x.2.2.1 x.2.1,Ag x.2.2.1 x.2.2.2 x.1,Ah x.2.2.2 x.1)
theorem Zk:∀w,S3 w=(fj,jT,gO,kO):=mkLe fun w=>by rw[Qb w];exact Prod.ext (x6 Dy) (Prod.ext (x8 Dz) (Prod.ext (x10 DA) ((x11 DB))))
def Vx:=jv De fun w=>Oi (S3 w).1 (Qc w) (D8 w)
theorem abF:∀w,Vx w=De:=bE fun w=>by rw[Zk w];rw[WS w,FC w];exact(x2 SX)
def yW:=jv fQ fun w=>qS (fS w) (fU w)
theorem IP:∀w,yW w=fQ:=bE fun w=>by rw[gU w,jt w];exact(x1 xC)
def Hl:=jv lv fun w=>zA (Eg w)
theorem Qe:∀w,Hl w=lv:=bE fun w=>by rw[MW w];exact(x1 Fo)
def xZ:=jv gv fun w=>xD (qp w) (kq w) (fS w) (Hh w) (fU w) (rQ w) (pb w)
theorem Ej:∀w,xZ w=gv:=bE fun w=>by rw[ud w,nq w,gU w,Qd w,jt w,vI w,uJ w];exact(x2 DI)
def uK:=jv dR fun w=>nJ (xX w)
theorem EH:∀w,uK w=dR:=bE fun w=>by rw[Hj w];exact(x2 tq)
def uL:=jv dS fun w=>nK (xY w)
theorem EJ:∀w,uL w=dS:=bE fun w=>by rw[Hk w];exact(x2 tt)
def Hm:=jv ll fun w=>aad (BG w) (KZ w) (uT w) (Hg w)
theorem Qf:∀w,Hm w=ll:=bE fun w=>by rw[Hf w,Ma w,zK w,P8 w];exact(x1 Fg)
def rD:=jv di fun w=>qL (fS w) (fU w)
theorem yc:∀w,rD w=di:=bE fun w=>by rw[gU w,jt w];exact(x1 xv)
def NA:=jv sf fun w=>Gg (FH w)
theorem Vy:∀w,NA w=sf:=bE fun w=>by rw[ON w];exact(x2 KL)
def Jr:=jv nC fun w=>Bv (CK w)
theorem RL:∀w,Jr w=nC:=bE fun w=>by rw[Gt w];exact(x1 GZ)
def OP:=jv wZ fun w=>N8 (RJ w) (rP w) (A6 w)
theorem S4:∀w,OP w=wZ:=bE fun w=>by rw[Vu w,vH w,JS w];exact(x2 SN)
def yd:=jv jg fun w=>Iw (FD w) (IN w) (Nz w)
theorem Gv:∀w,yd w=jg:=bE fun w=>by rw[OJ w,K8 w,Vw w];exact(x4 Nr)
def FJ:=jv kl fun w=>xE (qn w) (FI w)
theorem OQ:∀w,FJ w=kl:=bE fun w=>by rw[ub w,OO w];exact(x1 DJ)
def nr:=jv bW fun w=>sy (fS w) (rQ w)
theorem rE:∀w,nr w=bW:=bE fun w=>by rw[gU w,vI w];exact(x2 yF)
def Cy:=yB (bw,dj,cB) fun w x=>(lU x.2.1 x.2.2,lV x.2.1 x.1,lX x.2.2 (fU w))
theorem Lb:∀w,Cy w=(bw,dj,cB):=mkLe fun w=>by rw[jt w];exact Prod.ext (x6 pI) (Prod.ext (x7 pJ) ((x4 pK)))
def Ek:=jv fz fun w=>vg (Cy w).1 (qp w) (kq w) (fS w)
theorem MZ:∀w,Ek w=fz:=bE fun w=>by rw[Lb w];rw[ud w,nq w,gU w];exact(x2 BU)
def Hn:=yB (dx,fA) fun w x=>(pE x.2 (CK w),pF x.2 x.1)
theorem Qg:∀w,Hn w=(dx,fA):=mkLe fun w=>by rw[Gt w];exact Prod.ext (x10 tK) ((x16 tL))
def Js:=jv nE fun w=>By (Hn w).1
theorem RN:∀w,Js w=nE:=bE fun w=>by rw[Qg w];exact(x2 G1)
def Cz:=jv im fun w=>tM (wC w)
theorem Lc:∀w,Cz w=im:=bE fun w=>by rw[Gu w];exact(x2 AI)
def S5:=jv vM fun w=>KH (OI w) (K4 w) (D8 w) (Vx w)
theorem Zl:∀w,S5 w=vM:=bE fun w=>by rw[SZ w,Qb w,FC w,abF w];exact(x2 PZ)
def Ho:=jv lu fun w=>zy (Hl w)
theorem Qh:∀w,Ho w=lu:=bE fun w=>by rw[Qe w];exact(x1 Fm)
def Em:=jv jq fun w=>vj (rD w) (xZ w)
theorem M0:∀w,Em w=jq:=bE fun w=>by rw[yc w,Ej w];exact(x2 BY)
def ye:=yB (b4,ao,bg,bC) fun w x=>(jB x.1 x.2.1 (FG w) (Cv w),jC x.2.2.1 x.2.1 x.2.2.2 (D6 w) (xW w),jF x.2.2.1,jG x.2.2.2 x.2.1 (OP w) (IN w) (yd w) (xW w))
theorem Hp:∀w,ye w=(b4,ao,bg,bC):=mkLe fun w=>by rw[OM w,K7 w,Jk w,Nx w,S4 w,K8 w,Gv w];exact Prod.ext (x11 mw) (Prod.ext (x11 my) (Prod.ext (x7 mz) ((x14 mA))))
def yX:=jv fR fun w=>qH (ye w).1
theorem IQ:∀w,yX w=fR:=bE fun w=>by rw[Hp w];exact(x2 xg)
def wD:=yB (bM,ai,bl,bm) fun w x=>(iM x.1 x.2.1 (Eh w) (A0 w),iN x.2.2.1 x.2.1 x.2.2.2 (D6 w) (xW w),iQ x.2.2.1,iR x.2.2.2 x.2.1 (OP w) (IN w) (yd w) (xW w))
theorem Gw:∀w,wD w=(bM,ai,bl,bm):=mkLe fun w=>by rw[MX w,JP w,Jk w,Nx w,S4 w,K8 w,Gv w];exact Prod.ext (x11 lx) (Prod.ext (x11 ly) (Prod.ext (x7 lz) ((x14 lA))))
def qq:=jv b7 fun w=>pC (wD w).1
theorem wE:∀w,qq w=b7:=bE fun w=>by rw[Gw w];exact(x2 vN)
def Jt:=jv nz fun w=>Br (Jr w)
theorem RO:∀w,Jt w=nz:=bE fun w=>by rw[RL w];exact(x1 GV)
def A7:=jv bV fun w=>sD (qn w) (nr w) (Ek w)
theorem JU:∀w,A7 w=bV:=bE fun w=>by rw[ub w,rE w,MZ w];exact(x2 yK)
def Ld:=yB (lq,fu) fun w x=>(zn x.2 (yd w),mZ x.2 (yd w))
theorem TL:∀w,Ld w=(lq,fu):=mkLe fun w=>by rw[Gv w];exact Prod.ext (x6 Fc) ((x6 py))
def NB:=jv se fun w=>F6 (Ld w).1
theorem Vz:∀w,NB w=se:=bE fun w=>by rw[TL w];exact(x2 KB)
def Ju:=jv nA fun w=>Bs (BG w) (Js w) (uT w)
theorem RP:∀w,Ju w=nA:=bE fun w=>by rw[Hf w,RN w,zK w];exact(x2 GW)
def S6:=yB (jS,mS) fun w x=>(z7 x.2 (CK w),z8 x.2 x.1)
theorem Zm:∀w,S6 w=(jS,mS):=mkLe fun w=>by rw[Gt w];exact Prod.ext (x6 Dp) ((x10 Dq))
def VA:=jv Dc fun w=>Od (S6 w).1 (Cz w)
theorem abG:∀w,VA w=Dc:=bE fun w=>by rw[Zm w];rw[Lc w];exact(x1 SP)
def Hq:=yB eo fun w x=>vb x (Vt w) (S0 w) (KZ w) (S5 w) (D8 w)
theorem Qi:∀w,Hq w=eo:=mkLe fun w=>by rw[abE w,Zh w,Ma w,Zl w,FC w];exact(x4 BS)
def Jv:=jv nB fun w=>Bu (Hq w)
theorem RQ:∀w,Jv w=nB:=bE fun w=>by rw[Qi w];exact(x2 GY)
def yf:=yB (bf,bZ,aE) fun w x=>(jH x.2.1 x.2.2 (kf w),nN x.2.1 x.1 (rQ w) (pb w),jJ x.2.2 (fU w) (Em w) (xZ w))
theorem Hr:∀w,yf w=(bf,bZ,aE):=mkLe fun w=>by rw[lK w,vI w,uJ w,jt w,M0 w,Ej w];exact Prod.ext (x8 mE) (Prod.ext (x9 tu) ((x6 mF)))
def rF:=jv dq fun w=>qR (yf w).1 (qp w) (kq w) (fS w) (kf w)
theorem yg:∀w,rF w=dq:=bE fun w=>by rw[Hr w];rw[ud w,nq w,gU w,lK w];exact(x2 xB)
def Aj:=jv gM fun w=>z6 (NA w) (VA w) (KZ w) (zJ w) (uT w) (Jv w)
theorem En:∀w,Aj w=gM:=bE fun w=>by rw[Vy w,abG w,Ma w,FA w,zK w,RQ w];exact(x1 Dm)
def Qj:=jv zm fun w=>IC (Aj w) (Ho w)
theorem WT:∀w,Qj w=zm:=bE fun w=>by rw[En w,Qh w];exact(x1 Nv)
def yY:=yB cn fun w x=>oV x (rF w)
theorem IS:∀w,yY w=cn:=mkLe fun w=>by rw[yg w];exact(x2 uz)
def sR:=jv dN fun w=>sA (yY w) (yW w)
theorem yZ:∀w,sR w=dN:=bE fun w=>by rw[IS w];rw[IP w];exact(x2 yJ)
def NC:=jv sc fun w=>Gf (Qj w)
theorem VB:∀w,NC w=sc:=bE fun w=>by rw[WT w];exact(x1 KK)
def Jw:=jv nD fun w=>BC (qn w) (Eb w) (nr w) (sR w)
theorem RR:∀w,Jw w=nD:=bE fun w=>by rw[ub w,MR w,rE w,yZ w];exact(x1 G7)
def A8:=jv jn fun w=>AP (nr w) (rD w) (sR w) (rF w)
theorem JV:∀w,A8 w=jn:=bE fun w=>by rw[rE w,yc w,yZ w,yg w];exact(x2 JI)
def Lf:=yB ed fun w x=>tc x (Aj w) (NC w) (D7 w) (uK w) (uL w) (NB w) (Ju w)
theorem TM:∀w,Lf w=ed:=mkLe fun w=>by rw[En w,VB w,Jn w,EH w,EJ w,Vz w,RP w];exact(x9 w7)
def Ak:=jv jR fun w=>F5 (Lf w) (xV w)
theorem Eo:∀w,Ak w=jR:=bE fun w=>by rw[TM w];rw[Ai w];exact(x1 KA)
def Ep:=jv fy fun w=>vk (FJ w) (Jw w)
theorem M4:∀w,Ep w=fy:=bE fun w=>by rw[OQ w,RR w];exact(x1 B0)
def y5:=jv fM fun w=>yL (kq w) (A8 w)
theorem IT:∀w,y5 w=fM:=bE fun w=>by rw[nq w,JV w];exact(x2 IF)
def FK:=jv kj fun w=>xO (Ea w) (Ep w) (vG w)
theorem OR:∀w,FK w=kj:=bE fun w=>by rw[MQ w,M4 w,Cm w];exact(x2 DW)
def Jx:=jv kP fun w=>Bp (Ak w) (yX w)
theorem RU:∀w,Jx w=kP:=bE fun w=>by rw[Eo w,IQ w];exact(x2 GS)
def Hs:=jv jU fun w=>zq (Ak w) (qq w)
theorem Qk:∀w,Hs w=jU:=bE fun w=>by rw[Eo w,wE w];exact(x2 Ff)
def ND:=yB (jw,hU,qC,eX,ig) fun w x=>(uP x.1 x.2.1 (Aj w) (Jt w) (Hm w),Jd x.2.2.1,Je x.2.2.2.1 x.2.1,te x.2.2.2.1 x.2.2.2.2,tf x.2.2.2.1)
theorem VC:∀w,ND w=(jw,hU,qC,eX,ig):=mkLe fun w=>by rw[En w,RO w,Qf w];exact Prod.ext (x10 zo) (Prod.ext (x9 Ru) (Prod.ext (x12 Rv) (Prod.ext (x13 xd) ((x10 xe)))))
def IU:=jv pw fun w=>It (ND w).1 (Ak w)
theorem NF:∀w,IU w=pw:=bE fun w=>by rw[VC w];rw[Eo w];exact(x1 Np)
def Ht:=jv gm fun w=>zp (Jx w)
theorem Ql:∀w,Ht w=gm:=bE fun w=>by rw[RU w];exact(x1 Fe)
def NG:=jv kN fun w=>F7 (Hs w)
theorem VD:∀w,NG w=kN:=bE fun w=>by rw[Qk w];exact(x1 KC)
def CA:=yB bY fun w x=>lQ x (Fx w)
theorem Lg:∀w,CA w=bY:=mkLe fun w=>by rw[D5 w];exact(x10 pz)
def Er:=jv fx fun w=>u6 (CA w) (IU w) (qq w)
theorem M5:∀w,Er w=fx:=bE fun w=>by rw[Lg w];rw[NF w,wE w];exact(x1 BP)
def CC:=yB (cz,dg) fun w x=>(mj x.2 (FK w) (ov w),ml x.2 x.1 (vG w) (A7 w))
theorem Lh:∀w,CC w=(cz,dg):=mkLe fun w=>by rw[OR w,A4 w,Cm w,JU w];exact Prod.ext (x2 p5) ((x4 p6))
def Es:=jv je fun w=>vC (CC w).1
theorem M6:∀w,Es w=je:=bE fun w=>by rw[Lh w];exact(x1 Ca)
def Hu:=yB (ja,gJ,gK,cW,dC,eL) fun w x=>(D0 x.2.1 (ov w),D1 x.2.2.1 x.2.2.2.1 (qo w),D2 x.2.2.1 x.2.1 (ti w),oo x.2.2.2.2.1 (ov w),oq x.2.2.2.2.2 x.2.2.2.1 (qo w),ou x.2.2.2.2.2 x.2.2.2.2.1 (ti w))
theorem Qm:∀w,Hu w=(ja,gJ,gK,cW,dC,eL):=mkLe fun w=>by rw[A4 w,Hi w,Fz w];exact Prod.ext (x7 MI) (Prod.ext (x11 MJ) (Prod.ext (x12 MK) (Prod.ext (x9 sH) (Prod.ext (x12 sI) ((x13 sJ))))))
def Jy:=jv jx fun w=>BE (Hu w).1 (vF w) (Es w)
theorem RW:∀w,Jy w=jx:=bE fun w=>by rw[Qm w];rw[Ci w,M6 w];exact(x2 Hc)
def A9:=jv lk fun w=>AK (Jy w)
theorem JW:∀w,A9 w=lk:=bE fun w=>by rw[RW w];exact JH.symm
def OS:=jv kU fun w=>DD (A9 w) (Ht w) (NG w) (Er w) (IU w) (xU w) (KW w) (wx w)
theorem M7:∀w,OS w=kU:=bE fun w=>by rw[JW w,Ql w,VD w,M5 w,NF w,He w,TJ w,Gn w];exact Mu.symm
end
end Go.Proofs.YtofjebmoebhiiaaGreatDoor.Ev
namespace Go.Proofs.YtofjebmoebhiiaaGreatDoor.clearLaid
open Go.ChangeShapes Go.WideShapes Go.ChangeAt Go.RowKit
abbrev laid:List (String×DataW Unit):=[("torus/clear.standard",Rows.laid_torus_clear_standard),("torus/clear.twist",Rows.laid_torus_clear_twist)]
theorem own:ownKnob Tryz.prog.godebug=none:=by kernel_rfl
theorem g0:Tryz.prog.globalNamed "torus/clear.standard" =some 0:=by kernel_rfl
theorem g1:Tryz.prog.globalNamed "torus/clear.twist" =some 1:=by kernel_rfl
theorem t0:(Tryz.prog.globals[0]?).map (·.type)=some 86:=by kernel_rfl
theorem t1:(Tryz.prog.globals[1]?).map (·.type)=some 86:=by kernel_rfl
theorem ajR (os:Os)(args:Array Value):laidMetH Tryz.prog laid ((World.doorLaid Tryz.prog 19 os).forCall (fun _ _=>0) ⟨#[],args,[]⟩).memory:=
 laidMetH_of_parts3 (fuel:=8) (laidMet_of_run' 8 (by kernel_rfl) (by kernel_rfl)) (by kernel_rfl) (by kernel_rfl)
theorem amq {W:World}(h:laidMetH Tryz.prog laid W):W.cell? ⟨0,0,none⟩=some (.func (.func 196) #[] #[])∧W.cell? ⟨0,1,none⟩=some (.bool false)∧
  W.cell? ⟨1,0,none⟩=some (.func (.func 198) #[] #[])∧W.cell? ⟨1,1,none⟩=some (.bool true):=by
 have one:∀(name:String) (gn:Nat) (b0:UInt8) (r:List UInt8) (b:Bool) (f0:FuncId),(name,DataW.iface "func table" (.agg [.iface "func" (.lit (.string (b0::r))), .lit (.bool b)]))∈laid→Tryz.prog.globalNamed name=some gn→(Tryz.prog.globals[gn]?).map (·.type)=some 86→
   (((List.range Tryz.prog.funcs.size).filter fun f=>(Tryz.prog.funcs[f]?).any (·.name.toUTF8.data.toList==b0::r))=[f0])→W.cell? ⟨gn,0,none⟩=some (.func (.func f0) #[] #[])∧W.cell? ⟨gn,1,none⟩=some (.bool b):=by
  intro name gn b0 r b f0 hm hgn htn hone;obtain⟨g,t,cs,fuel,p,hg,ht,hv,hd⟩:=h.funcs hm;obtain rfl:=Option.some.inj (hgn.symm.trans hg);obtain rfl:=Option.some.inj (htn.symm.trans ht);have Z9:DataW.trod (funcToken Tryz.prog) Tryz.prog W 0 (fun _=>true) true fuel 86 cs.toList=some (.agg [.held (b0::r), .lit (.bool b)],p):=hd;obtain⟨y0,y1,n,hx,hl,h0,h1⟩:=trod_struct2 Tryz.underlying86 Z9;have hl':cs.toList.length=2:=hl.trans (by kernel_rfl);obtain⟨l⟩:=cs;simp only at hl' h0 h1
  match l,hl' with
  | [c0,c1],_=>
    have e84:Tryz.prog.cellsOf 84=1:=by kernel_rfl
    have e4:Tryz.prog.cellsOf 4=1:=by kernel_rfl
    rw[e84] at h0;rw[e4] at h1;simp only[Prod.mk.injEq,DataW.agg.injEq,List.cons.injEq,and_true] at hx;have k0:DataW.trod (funcToken Tryz.prog) Tryz.prog W 0 (fun _=>true) true n 84 [c0]=some (.held (b0::r),y0.2):=by have h0':DataW.trod (funcToken Tryz.prog) Tryz.prog W 0 (fun _=>true) true n 84 [c0]=some y0:=h0;rw[h0',hx.1.1]
    obtain rfl:=func_of_trod (f0:=f0) Tryz.underlying84 hone k0;have v0:=World.var?_cell hgn hv 0;have v1:=World.var?_cell hgn hv 1;obtain⟨b',e1,e2⟩:=DataW.trod_bool Tryz.underlying4 (show DataW.trod (funcToken Tryz.prog) Tryz.prog W 0 (fun _=>true) true n 4 [c1]=some y1 from h1);simp only[List.cons.injEq,and_true] at e1;subst e1;have e3:=hx.1.2;rw[e2] at e3;simp only[DataW.lit.injEq,Lit.bool.injEq] at e3;subst e3;exact⟨v0,v1⟩
 obtain⟨a1,a2⟩:=one "torus/clear.standard" 0 _ _ false 196 (List.mem_cons_self ..) g0 t0 (by kernel_rfl)
 obtain⟨a3,a4⟩:=one "torus/clear.twist" 1 _ _ true 198 (List.mem_cons_of_mem _ (List.mem_cons_self ..)) g1 t1 (by kernel_rfl)
 exact⟨a1,a2,a3,a4⟩
theorem amr {W:World}(h:laidMetH Tryz.prog laid W):Go.Abs.YY Ev.T (fun key u=>∃ad:Addr,key= .cell ad∧∃Q3:Addr,Go.Abs.Key.cell ad= .cell Q3∧W.cell? Q3=some u):=by
 obtain⟨a1,a2,a3,a4⟩:=amq h;have one:∀(gn f0:Nat) (b:Bool),W.cell? ⟨gn,0,none⟩=some (.func (.func f0) #[] #[])→W.cell? ⟨gn,1,none⟩=some (.bool b)→
   Go.Abs.rW (fun key u=>∃ad:Addr,key= .cell ad∧∃Q3:Addr,Go.Abs.Key.cell ad= .cell Q3∧W.cell? Q3=some u) [⟨.fn,f0+1⟩,⟨.bool,b⟩] (.pointer (some ⟨gn,0,none⟩)):=fun gn f0 b h1 h2=>
  ⟨⟨gn,0,none⟩,[.func (.func f0) #[] #[], .bool b],rfl,⟨rfl,rfl,trivial⟩,fun j u hj=>by
    match j,hj with
    |0,hj=>cases hj;exact⟨_,rfl,_,rfl,h1⟩
    |1,hj=>cases hj;exact⟨_,rfl,_,rfl,h2⟩
    |j+2,hj=>simp at hj⟩
 intro i x hx;have hx':Go.Abs.look [(1000000000,Go.Abs.AV.qA [⟨.fn,(197:Nat)⟩,⟨.bool,false⟩]),(1000000001,Go.Abs.AV.qA [⟨.fn,(199:Nat)⟩,⟨.bool,true⟩])] i=some x:=hx;have hm:=Go.Abs.Av hx';simp only[List.mem_cons,List.not_mem_nil,or_false,Prod.mk.injEq] at hm;rcases hm with ⟨rfl,rfl⟩ | ⟨rfl,rfl⟩
 ·exact⟨0,_,rfl,rfl,one 0 196 false a1 a2⟩
 ·exact⟨1,_,rfl,rfl,one 1 198 true a3 a4⟩
end Go.Proofs.YtofjebmoebhiiaaGreatDoor.clearLaid
namespace Go.Proofs.YtofjebmoebhiiaaGreatDoor
open Go.Shelf Go.Proofs
def Zn:Go.Shelf.Ren:=⟨fun |6=>50 |15=>91 |14=>90 |28=>132 |29=>133 |20=>124 |21=>125 |22=>126 |23=>127 |24=>128 |25=>129 |26=>130 |27=>131 |46=>156 |47=>157 |48=>158 |49=>159 |50=>160 |57=>172 |n=>n,fun |22=>46 |24=>58 |25=>98 |3=>3 |39=>149 |0=>0 |53=>168 |55=>171 |4=>4 |46=>184 |45=>183 |50=>140 |5=>5 |9=>9 |66=>209 |70=>213 |76=>222 |77=>223 |n=>n,fun |n=>n⟩
theorem abH:Go.Proofs.SlLaysF0.n6 Tryz.prog Zn where
 mixed:=by kernel_rfl
 f6:=⟨"slices.SortFunc[[]torus/api.Pair,torus/api.Pair]",by decide,Tryz.func50.trans (congrArg some (by kernel_rfl))⟩
 f14:=⟨"slices.pdqsortCmpFunc[torus/api.Pair]",by decide,Tryz.func90.trans (congrArg some (by kernel_rfl))⟩
 f15:=Tryz.func91.trans (congrArg some (by kernel_rfl))
 f20:=⟨"slices.insertionSortCmpFunc[torus/api.Pair]",by decide,Tryz.func124.trans (congrArg some (by kernel_rfl))⟩
 f21:=⟨"slices.heapSortCmpFunc[torus/api.Pair]",by decide,Tryz.func125.trans (congrArg some (by kernel_rfl))⟩
 f22:=⟨"slices.breakPatternsCmpFunc[torus/api.Pair]",by decide,Tryz.func126.trans (congrArg some (by kernel_rfl))⟩
 f23:=⟨"slices.choosePivotCmpFunc[torus/api.Pair]",by decide,Tryz.func127.trans (congrArg some (by kernel_rfl))⟩
 f24:=⟨"slices.reverseRangeCmpFunc[torus/api.Pair]",by decide,Tryz.func128.trans (congrArg some (by kernel_rfl))⟩
 f25:=⟨"slices.partialInsertionSortCmpFunc[torus/api.Pair]",by decide,Tryz.func129.trans (congrArg some (by kernel_rfl))⟩
 f26:=⟨"slices.partitionEqualCmpFunc[torus/api.Pair]",by decide,Tryz.func130.trans (congrArg some (by kernel_rfl))⟩
 f27:=⟨"slices.partitionCmpFunc[torus/api.Pair]",by decide,Tryz.func131.trans (congrArg some (by kernel_rfl))⟩
 f28:=Tryz.func132.trans (congrArg some (by kernel_rfl))
 f29:=Tryz.func133.trans (congrArg some (by kernel_rfl))
 f46:=⟨"slices.siftDownCmpFunc[torus/api.Pair]",by decide,Tryz.func156.trans (congrArg some (by kernel_rfl))⟩
 f47:=Tryz.func157.trans (congrArg some (by kernel_rfl))
 f48:=Tryz.func158.trans (congrArg some (by kernel_rfl))
 f49:=⟨"slices.medianAdjacentCmpFunc[torus/api.Pair]",by decide,Tryz.func159.trans (congrArg some (by kernel_rfl))⟩
 f50:=⟨"slices.medianCmpFunc[torus/api.Pair]",by decide,Tryz.func160.trans (congrArg some (by kernel_rfl))⟩
 f57:=⟨"slices.order2CmpFunc[torus/api.Pair]",by decide,Tryz.func172.trans (congrArg some (by kernel_rfl))⟩
 t0:=Tryz.underlying0
 a0:=Tryz.isAgg0
 z0:=Tryz.sizeOf0
 v0:=Tryz.zeroValue0
 t3:=Tryz.underlying3
 a3:=Tryz.isAgg3
 z3:=Tryz.sizeOf3
 v3:=Tryz.zeroValue3
 t4:=Tryz.underlying4
 a4:=Tryz.isAgg4
 z4:=Tryz.sizeOf4
 v4:=Tryz.zeroValue4
 t5:=Tryz.underlying5
 a5:=Tryz.isAgg5
 z5:=Tryz.sizeOf5
 v5:=Tryz.zeroValue5
 t9:=Tryz.underlying9
 a9:=Tryz.isAgg9
 z9:=Tryz.sizeOf9
 v9:=Tryz.zeroValue9
 t22:=Tryz.underlying46
 a22:=Tryz.isAgg46
 z22:=Tryz.sizeOf46
 v22:=Tryz.zeroValue46
 t25:=Tryz.underlying98
 a25:=Tryz.isAgg98
 z25:=Tryz.sizeOf98
 v25:=Tryz.zeroValue98
 t39:=Tryz.underlying149
 a39:=Tryz.isAgg149
 z39:=Tryz.sizeOf149
 v39:=Tryz.zeroValue149
 t45:=Tryz.underlying183
 a45:=Tryz.isAgg183
 z45:=Tryz.sizeOf183
 v45:=Tryz.zeroValue183
 t46:=Tryz.underlying184
 a46:=Tryz.isAgg184
 z46:=Tryz.sizeOf184
 v46:=Tryz.zeroValue184
 t50:=Tryz.underlying140
 a50:=Tryz.isAgg140
 z50:=Tryz.sizeOf140
 v50:=Tryz.zeroValue140
 t53:=Tryz.underlying168
 a53:=Tryz.isAgg168
 z53:=Tryz.sizeOf168
 v53:=Tryz.zeroValue168
 t55:=Tryz.underlying171
 a55:=Tryz.isAgg171
 z55:=Tryz.sizeOf171
 v55:=Tryz.zeroValue171
 t66:=Tryz.underlying209
 a66:=Tryz.isAgg209
 z66:=Tryz.sizeOf209
 v66:=Tryz.zeroValue209
 t70:=Tryz.underlying213
 a70:=Tryz.isAgg213
 z70:=Tryz.sizeOf213
 v70:=Tryz.zeroValue213
 t76:=Tryz.underlying222
 a76:=Tryz.isAgg222
 z76:=Tryz.sizeOf222
 v76:=Tryz.zeroValue222
 t77:=Tryz.underlying223
 a77:=Tryz.isAgg223
 z77:=Tryz.sizeOf223
 v77:=Tryz.zeroValue223
end Go.Proofs.YtofjebmoebhiiaaGreatDoor
namespace Go.Proofs.YtofjebmoebhiiaaGreatDoor.Ev
open Go.Abs
abbrev Up (l:List (Int×Int×Unit)):Prop:=l.Pairwise fun a b=>a.1<b.1
theorem VE {x y:Int×Int×Unit}:∀{l:List (Int×Int×Unit)},y∈abB x l↔y=x∨y∈l
 | []=>by simp[abB]
 |z::r=>by
  unfold abB;cases decide (x.1<z.1) with
  |true=>simp
  |false=>simp only[cond_false,List.mem_cons,VE (l:=r)];constructor<;>rintro (h |h |h)<;>simp[h]
theorem Mb {y:Int×Int×Unit}:∀{l:List (Int×Int×Unit)},y∈um l↔y∈l
 | []=>by simp[um]
 |x::r=>by rw[um,VE,Mb (l:=r)];simp
theorem afd {x:Int×Int×Unit}:∀{l:List (Int×Int×Unit)},Up l→(∀y∈l,x.1≠y.1)→Up (abB x l)
 | [],_,_=>by simp[abB,Up]
 |z::r,h,hn=>by
  unfold abB;have h':=List.pairwise_cons.1 h;by_cases e:x.1<z.1
  ·rw[show decide (x.1<z.1)=true by simpa using e,cond_true];exact List.pairwise_cons.2 ⟨fun y hy=>by
    rcases List.mem_cons.1 hy with rfl |hy
    ·exact e
    ·have:=h'.1 y hy;omega,h⟩
  ·rw[show decide (x.1<z.1)=false by simpa using e,cond_false];refine List.pairwise_cons.2 ⟨fun y hy=> ?_,afd h'.2 fun y hy=>hn y (List.mem_cons_of_mem _ hy)⟩;rcases VE.1 hy with rfl |hy
   ·have:=hn z (List.mem_cons_self);omega
   ·exact h'.1 y hy
abbrev Ds (l:List (Int×Int×Unit)):Prop:=l.Pairwise fun a b=>a.1≠b.1
theorem VF:∀{l:List (Int×Int×Unit)},Ds l→Up (um l)
 | [],_=>List.Pairwise.nil
 |x::r,h=>by have h':=List.pairwise_cons.1 h;exact afd (VF h'.2) fun y hy=>h'.1 y (Mb.1 hy)
theorem adE:∀{a b:List (Int×Int×Unit)},Up a→Up b→(∀x,x∈a↔x∈b)→a=b
 | [],[],_,_,_=>rfl
 | [],y::s,_,_,h=>by have:=(h y).2 List.mem_cons_self;cases this
 |x::r,[],_,_,h=>by have:=(h x).1 List.mem_cons_self;cases this
 |x::r,y::s,ha,hb,h=>by
  have ha':=List.pairwise_cons.1 ha;have hb':=List.pairwise_cons.1 hb;have e:x=y:=by
   rcases List.mem_cons.1 ((h x).1 List.mem_cons_self) with e |h1
   ·exact e
   ·rcases List.mem_cons.1 ((h y).2 List.mem_cons_self) with e |h2
    ·exact e.symm
    ·have:=hb'.1 x h1;have:=ha'.1 y h2;omega
  subst e;rw[adE ha'.2 hb'.2 fun z=> ?_];constructor
  ·intro hz;rcases List.mem_cons.1 ((h z).1 (List.mem_cons_of_mem _ hz)) with rfl |h3
   ·have:=ha'.1 _ hz;omega
   ·exact h3
  ·intro hz;rcases List.mem_cons.1 ((h z).2 (List.mem_cons_of_mem _ hz)) with rfl |h3
   ·have:=hb'.1 _ hz;omega
   ·exact h3
theorem Zo:∀{l:List (Int×Int×Unit)},okT l=true↔(∀x∈l,0≤x.1∧x.1<1000000000)∧Ds l
 | []=>by simp[okT,Ds]
 |x::r=>by
  rw[okT];simp only[Bool.and_eq_true,decide_eq_true_eq,List.all_eq_true,Bool.not_eq_true',decide_eq_false_iff_not,Zo (l:=r),List.mem_cons,forall_eq_or_imp,Ds,List.pairwise_cons];constructor
  ·rintro ⟨⟨⟨h1,h2⟩,h3⟩,h4,h5⟩;exact⟨⟨⟨h1,h2⟩,h4⟩,h3,h5⟩
  ·rintro ⟨⟨⟨h1,h2⟩,h4⟩,h3,h5⟩;exact⟨⟨⟨h1,h2⟩,h3⟩,h4,h5⟩
theorem Ds.perm {a b:List (Int×Int×Unit)}(h:a.Perm b)(hd:Ds a):Ds b:=(h.pairwise_iff (R:=fun a b:Int×Int×Unit=>a.1≠b.1) (fun h=>Ne.symm h)).1 hd
theorem ajS {l l':List (Int×Int×Unit)}(hd:Ds l)(hp:l'.Perm l)(hs:l'.Pairwise fun a b=>a.1≤b.1):l'=um l:=by
 have Z9:Ds l':=hd.perm hp.symm;refine adE ?_ (VF hd) fun x=>by rw[Mb,hp.mem_iff]
 exact(hs.and Z9).imp fun⟨h1,h2⟩=>by omega
open Go.Shelf Go.RowKit Go.Lib Go.Sort Go.Proofs
abbrev El:=Fin 1000000000×Int
instance:Inhabited El:=⟨(⟨0,by decide⟩,0)⟩
def Li (x:El):List Value:=[.int .i64 (x.1.val:Int), .int .i64 x.2]
def WU (t:Int×Int×Unit):El:=(⟨t.1.toNat % 1000000000,Nat.mod_lt _ (by decide)⟩,t.2.1)
def ofE (x:El):Int×Int×Unit:=((x.1.val:Int),x.2,())
def cfE (x y:El):Int:=(x.1.val:Int) - y.1.val
theorem ltE (x y:El):ltOf cfE x y=decide (x.1.val<y.1.val):=by unfold ltOf cfE;by_cases h:x.1.val<y.1.val<;>simp[h]<;>omega
theorem atO:SWO (ltOf cfE) where
 irrefl x:=by rw[ltE];simp
 trans x y z h1 h2:=by rw[ltE] at*;simp at*;omega
 ntrans x y z h1 h2:=by rw[ltE] at*;simp at*;omega
theorem anL {t:Int×Int×Unit}(h:0≤t.1∧t.1<1000000000):ofE (WU t)=t:=by
 obtain⟨a,b,u⟩:=t;simp only at h;have:((a.toNat % 1000000000:Nat):Int)=a:=by omega
 show (((a.toNat % 1000000000:Nat):Int),b,())=(a,b,u)
 rw[this]
set_option maxHeartbeats 1000000 in
theorem agW (x y:El)(W:World):Calls Tryz.prog 51 #[.agg #[.int .i64 (x.1.val:Int), .int .i64 x.2], .agg #[.int .i64 (y.1.val:Int), .int .i64 y.2]] W fun e w'=>e= .returned (.int .i64 (cfE x y))∧∃q os',w'=grow (W.drewN q) os':=by
 have hw:IntKind.i64.wrap ((x.1.val:Int) - (y.1.val:Int))=cfE x y:=by have:=x.1.isLt;have:=y.1.isLt;unfold cfE;simp[IntKind.wrap,IntKind.bits,IntKind.signed];omega
 generalize cfE x y=r at hw ⊢
 go_enter Tryz.func51,Tryz.ntmps51
 go_wp2
 go_ret
 exact⟨rfl,0,_,by rw[alloc_eq_grow,alloc_eq_grow,grow_grow];rfl⟩
theorem agX (blk off size:Nat)(w:World):CmpLays Tryz.prog 51 #[] Li 2 cfE blk off size w:=fun _ _ _ _ x y=>agW x y _
theorem ams:∀args w,(callFunc 51 args).run Tryz.prog w= .ok (.enter 51 args) w:=enters_of Tryz.func51 (by kernel_rfl) rfl
theorem ao3 (blk cap:Nat)(d:Array El)(w:World)(hH:HoldsK Li 2 w blk 0 d)(hblk:blk<w.heap.size)(hsz:d.size<4611686018427387904):
  Calls Tryz.prog 50 #[.slice (some ⟨blk,0,none⟩) d.size cap, .func (.func 51) #[] #[]] w fun e w'=>e= .returned (.tuple #[])∧∃d' n os,PermIn 0 d.size d d'∧SortedIn (ltOf cfE) 0 d.size d'∧w'=sortWorldK Li 2 w blk 0 n d' os:=
 AnyQ.slices_SortFunc abH 2 Tryz.isAgg58 Tryz.sizeOf58 Li (fun _=>rfl) (fun x v hv=>by simp[Li] at hv;rcases hv with rfl |rfl<;>rfl) cfE atO 51 #[] blk 0 cap d w ams (agX blk 0 d.size w) hH hblk hsz
theorem abI (cap:Nat)(p:Option Addr)(fv:Value)(w:World):Calls Tryz.prog 50 #[.slice p 0 cap,fv] w fun e w'=>e= .returned (.tuple #[])∧w'=w:=AnyF.slices_SortFunc_none abH p cap fv w
abbrev tTb:Ty:= .st (.pair (.int .i64) (.pair (.int .i64) .unit))
theorem S7 {V:View}:∀{l:List (Int×Int×Unit)} {bG:List (List Value)},aF (Go.Abs.Rel V tTb) l bG→bG=l.map fun t=>[Value.int .i64 t.1,Value.int .i64 t.2.1]
 | [],[],_=>rfl
 |t::l,ys::bG,h=>by obtain⟨h1,h2⟩:=h;have h1':∃a b,ys=a++b∧a=[Value.int .i64 t.1]∧∃c d,b=c++d∧c=[Value.int .i64 t.2.1]∧d=[]:=h1;obtain⟨a,b,rfl,rfl,c,d,rfl,rfl,rfl⟩:=h1';rw[S7 h2];rfl
theorem S8 {V:View}:∀(l:List (Int×Int×Unit)),aF (Go.Abs.Rel V tTb) l (l.map fun t=>[Value.int .i64 t.1,Value.int .i64 t.2.1])
 | []=>trivial
 |t::l=>⟨⟨[Value.int .i64 t.1],[Value.int .i64 t.2.1],rfl,rfl,[Value.int .i64 t.2.1],[],rfl,rfl,rfl⟩,S8 l⟩
abbrev Et (xs:List El):List Value:=(xs.map Li).flatten
theorem Gx:∀(xs:List El),(Et xs).length=xs.length*2
 | []=>rfl
 |x::r=>by have:=Gx r;simp only[Et,List.map_cons,List.flatten_cons,List.length_append,List.length_cons] at this ⊢;have e:(Li x).length=2:=rfl;omega
theorem VG:∀(xs:List El) (t:Nat),t<xs.length*2→(Et xs)[t]? =some ((Li (xs.getD (t / 2) default))[t % 2]!)
 | [],t,h=>by simp at h
 |x::r,0,_=>rfl
 |x::r,1,_=>rfl
 |x::r,t+2,h=>by
  have ih:=VG r t (by simp at h;omega);have e1:(t+2) / 2=t / 2+1:=by omega
  have e2:(t+2) % 2=t % 2:=by omega
  rw[e1,e2];exact ih
theorem abJ (d:Array El)(t:Nat)(h:t<d.size*2):(Et d.toList)[t]? =some (flatK Li 2 d)[t]! :=by
 rw[get_flatK Li 2 d t h,VG d.toList t (by simpa using h)];have:d.toList.getD (t / 2) default=d[t / 2]! :=by simp[List.getD,Array.getElem!_eq_getD]
 rw[this]
theorem ajU {w:World}{blk n:Nat}{d:Array El}{os:Array Obj}{cur:Array Value}{e:TypeId}{fr:Nat×Nat}(h:w.heap[blk]? =some (.cells cur e fr))(hs:d.size*2≤cur.size):
  ∃agY,(sortWorldK Li 2 w blk 0 n d os).heap[blk]? =some (.cells agY e fr)∧agY.size=cur.size∧agY.toList.take (d.size*2)=Et d.toList:=by
 have hlt:blk<w.heap.size:=(Array.getElem?_eq_some_iff.1 h).1;refine⟨putCells id 0 (flatK Li 2 d) cur, ?_,by simp[putCells], ?_⟩
 ·show ((w.heap.modify blk _)++os)[blk]? =_;rw[Array.getElem?_append_left (by simpa using hlt),Array.getElem?_modify];simp[h,onCells]
 ·apply List.ext_getElem?;intro t;by_cases ht:t<d.size*2
  ·rw[abJ d t ht,List.getElem?_take,if_pos ht,Array.getElem?_toList,putCells,Array.getElem?_mapIdx,Array.getElem?_eq_getElem (by omega),Option.map_some,if_pos ⟨Nat.zero_le _,by rw[size_flatK];omega⟩];rfl
  ·rw[List.getElem?_eq_none (by simp;omega),List.getElem?_eq_none (by rw[Gx];simp;omega)]
theorem ajV {w:World}{blk n k:Nat}{d:Array El}{os:Array Obj}(hk:k<w.heap.size)(h:k≠blk):(sortWorldK Li 2 w blk 0 n d os).heap[k]? =w.heap[k]? :=by show ((w.heap.modify blk _)++os)[k]? =_;rw[Array.getElem?_append_left (by simpa using hk),Array.getElem?_modify];simp[Ne.symm h]
theorem amt {w:World}{blk n:Nat}{d:Array El}{os:Array Obj}:Grow (fun k=>k=blk) w (sortWorldK Li 2 w blk 0 n d os):=
 ⟨rfl,rfl,rfl,size_sortWorldK_c Li 2 w blk 0 n d os,fun k hk hn=>ajV hk hn⟩
theorem holds_of {w:World}{blk:Nat}{l:List (Int×Int×Unit)}{cur:Array Value}{e:TypeId}(h:w.heap[blk]? =some (.cells cur e (0,0)))(hc:cur.toList.take (l.length*2)=Et (l.map WU))(hs:l.length*2≤cur.size):HoldsK Li 2 w blk 0 (l.map WU).toArray:=by
 intro j hj;rw[size_flatK] at hj;have hj':j<l.length*2:=by simpa using hj
 refine⟨?_, ?_⟩
 ·have:=abJ (l.map WU).toArray j hj;rw[←hc,List.getElem?_take,if_pos hj',Array.getElem?_toList] at this;simp only[World.cell?,h,Nat.zero_add];exact this
 ·simp[World.frozen?,h]
theorem XZ:∀{l:List (Int×Int×Unit)},(∀x∈l,0≤x.1∧x.1<1000000000)→(l.map fun t=>[Value.int .i64 t.1,Value.int .i64 t.2.1]).flatten=Et (l.map WU)
 | [],_=>rfl
 |t::l,h=>by
  have ih:=XZ (l:=l) fun x hx=>h x (List.mem_cons_of_mem _ hx);have e:=anL (h t List.mem_cons_self);have e1:Li (WU t)=[Value.int .i64 t.1,Value.int .i64 t.2.1]:=by have e2:((WU t).1.val:Int)=t.1:=congrArg (·.1) e;show [Value.int .i64 ((WU t).1.val:Int),Value.int .i64 t.2.1]=_;rw[e2]
  simp only[Et,List.map_cons,List.flatten_cons,e1] at ih ⊢;rw[ih]
theorem RX:∀(xs:List El),Et xs=((xs.map ofE).map fun t=>[Value.int .i64 t.1,Value.int .i64 t.2.1]).flatten
 | []=>rfl
 |x::r=>by have ih:=RX r;simp only[Et,List.map_cons,List.flatten_cons] at ih ⊢;rw[ih];rfl
theorem abK {l:List (Int×Int×Unit)}{d':Array El}(hr:∀x∈l,0≤x.1∧x.1<1000000000)(hd:Ds l)(hp:PermIn 0 (l.map WU).toArray.size (l.map WU).toArray d')(hs:SortedIn (ltOf cfE) 0 (l.map WU).toArray.size d'):d'.toList.map ofE=um l∧d'.size=l.length:=by
 have hsz:d'.size=l.length:=by rw[hp.1];simp
 have hx:(d'.extract 0 (l.map WU).toArray.size)=d':=by rw[←hp.1];simp
 have hy:((l.map WU).toArray.extract 0 (l.map WU).toArray.size)=(l.map WU).toArray:=by simp;exact List.take_of_length_le (by simp)
 have anM:=hp.2.2;rw[hx,hy] at anM;have hb:(l.map WU).map ofE=l:=by
  rw[List.map_map];have:∀{l:List (Int×Int×Unit)},(∀x∈l,0≤x.1∧x.1<1000000000)→l.map (ofE ∘ WU)=l:=fun {l} h=>by
   induction l with
   |nil=>rfl
   |cons t l ih=>
    rw[List.map_cons,ih fun x hx=>h x (List.mem_cons_of_mem _ hx)]
    congr 1
    exact anL (h t List.mem_cons_self)
  exact this hr
 have hq:(d'.toList.map ofE).Perm l:=by have:=anM.map ofE;rwa [hb] at this
 refine⟨ajS hd hq ?_,hsz⟩;rw[List.pairwise_map,List.pairwise_iff_getElem];intro i j hi hj hij;have hi':i<d'.size:=by simpa using hi
 have hj':j<d'.size:=by simpa using hj
 have h1:=hs i j (Nat.zero_le _) hij (by rw[←hp.1];exact hj');rw[ltE,getElem!_pos d' i hi',getElem!_pos d' j hj'] at h1;simp only[decide_eq_false_iff_not,Nat.not_lt] at h1;show ((d'.toList[i].1.val:Nat):Int)≤((d'.toList[j].1.val:Nat):Int)
 simp only[Array.getElem_toList];omega
abbrev hr3 (hp:List (Option (List (Int×Int×Unit)))):aQ:=⟨58,tTb,0,true,hp⟩
theorem aq6 (hp:List (Option (List (Int×Int×Unit)))):((c8 T).set 3 (hr3 hp))[3]? =some (hr3 hp):=rfl
theorem ao4 (hp:List (Option (List (Int×Int×Unit)))):((c8 T).set 3 (hr3 hp)).set 3 (hr3 hp)=(c8 T).set 3 (hr3 hp):=rfl
theorem ao5 (x:(Nat×Unit)×List (Option (List (Int×Int×Unit))))(y:Unit×List (Option (List (Int×Int×Unit))))(h:XW x.1.1 x.2=some y):N3 Tryz.prog T 50 x y:=by
 obtain⟨⟨n,u⟩,hp⟩:=x;obtain⟨yu,hp'⟩:=y;refine⟨⟨_,Tryz.func50,by kernel_rfl,by kernel_rfl⟩,fun E ν args d hE hG hC hst hargs=> ?_⟩;replace hst:St E (aK ((c8 T).set 3 (hr3 hp))) ⟨#[],[]⟩ E.w0 ν (fun _=>False):=hst;obtain⟨v1,r1,e1,hv,v2,e2,vs,e3,hvs⟩:∃v1 r1,args.toList=v1::r1∧cg (view E (aK ((c8 T).set 3 (hr3 hp))) ν (fun _=>False) E.w0) ⟨.ref 3,n⟩ v1∧∃v2,r1=[v2]∧∃vs:List Value,v2= .func (.func 51) #[] vs.toArray∧vs=[]:=hargs;subst hvs e3 e2;obtain rfl:args= #[v1, .func (.func 51) #[] #[]]:=by cases args;simp_all
 have fin:∀(w':World) (aN:Nm→Value),St E (aK (((c8 T).set 3 (hr3 hp)).set 3 (hr3 hp'))) ⟨#[],[]⟩ w' aN (fun _=>False)→Go.Abs.Left T E 50 ((n,u),hp) (yu,hp') d (.returned (.tuple #[])) w':=fun w' aN hs=>
  ⟨.tuple #[],aN,rfl,hs,⟨[],rfl,trivial⟩⟩
 cases n with
 |zero=>
  have e:v1= .slice none 0 0:=by
   rcases Kh hv with ⟨_,e⟩ | ⟨h1,_⟩
   ·exact e
   ·omega
  subst e;obtain rfl:hp=hp':=by have h':some ((),hp)=some (yu,hp'):=h;simpa using h'
  refine(abI 0 none _ E.w0).mono ?_;rintro e w' ⟨rfl,rfl⟩;exact fin _ ν (by rw[ao4];exact hst)
 |succ n=>
  have h':((ag hp (n+1)).bind fun l=>bif Nat.ble l.length 1000000&&okT l then some ((),ef hp (n+1) (um l)) else none)=some (yu,hp'):=h;obtain⟨l,hl,h2⟩:=Option.bind_eq_some_iff.1 h';cases hc:Nat.ble l.length 1000000&&okT l with
  |false=>rw[hc] at h2;cases h2
  |true=>
   rw[hc] at h2;obtain rfl:ef hp (n+1) (um l)=hp':=by simpa using h2
   simp only[Bool.and_eq_true,Nat.ble_eq,Zo] at hc;obtain⟨hlen,hr,hd⟩:=hc;have hh:(aK ((c8 T).set 3 (hr3 hp))).af[3]? =some (hr3 hp):=aq6 hp;obtain⟨⟨bG,hown,hall⟩,hO,GK⟩:=hst.LW hh hl hv;rcases GK with ⟨h0,_⟩ | ⟨h1,_,h3⟩
   ·omega
   ·have hy:=S7 hall;subst hy;obtain⟨_,hown⟩:=hown;rcases hown with ⟨e,_⟩ | ⟨g,cap,cur,e,_,hg,hn,hm,hcs,Jc⟩
    ·have hnn:=hst.nn 3 (hr3 hp) (n+1) hh h1 (LR hl);rcases hnn with ⟨_,g,m,c,e4⟩ | ⟨e4,_⟩
     ·rw[←h3,e] at e4;cases e4
     ·cases e4
    ·have hcell:cur.toList.take (l.length*2)=Et (l.map WU):=by rw[←XZ hr];exact Jc
     have aq7:l.length*2≤cur.size:=by rw[hcs];exact Nat.mul_le_mul_right 2 hn
     have hgl:g<E.w0.heap.size:=(Array.getElem?_eq_some_iff.1 hg).1;have hsz:(l.map WU).toArray.size=l.length:=by simp
     have hs:=ao3 g cap (l.map WU).toArray E.w0 (holds_of hg hcell aq7) hgl (by rw[hsz];omega);have e5:v1= .slice (some ⟨g,0,none⟩) (l.map WU).toArray.size cap:=by rw[hsz];exact e
     rw[e5];refine hs.mono ?_;rintro e6 w' ⟨rfl,d',m,os,hp1,hs1,rfl⟩;obtain⟨q1,q2⟩:=abK hr hd hp1 hs1;have e7:d'.size*2≤cur.size:=by rw[q2];exact aq7
     obtain⟨agY,c1,c2,c3⟩:=ajU (n:=m) (os:=os) (d:=d') hg e7;refine fin _ (Pz ν 3 (n+1) (ν (.hp 3 (n+1)))) ?_;refine hst.aiQ hE (hr:=hr3 hp) (l:=l) (l':=um l) hh rfl h1 hl (g:=g) (by rw[←h3,e];rfl) amt fun V' hV=> ?_;have ao6:(um l).length=l.length:=by rw[←q1];simp[q2]
     rw[←h3,e];refine⟨⟨_,_,_,rfl⟩,((um l).map fun t=>[Value.int .i64 t.1,Value.int .i64 t.2.1]),⟨?_, .inr ⟨g,cap,agY, ?_,Nat.zero_le _,c1, ?_,hm,by rw[c2];exact hcs, ?_⟩⟩,S8 _⟩
     ·rw[←q1, ←RX,Gx];simp;rfl
     ·show Value.slice (some ⟨g,0,none⟩) l.length cap=Value.slice (some ⟨g,0,none⟩) (um l).length cap;rw[ao6]
     ·show (um l).length≤cap;rw[ao6];exact hn
     ·show agY.toList.take ((um l).length*2)=_;rw[ao6, ←q2,c3,RX,q1]
theorem ao7 (s:ByteArray)(c:Int)(w:World):(callFunc 177 #[.string s, .int .u8 c]).run Tryz.prog w= .ok (.value (.int .i64 (indexByte s.data.toList c.toNat.toUInt8))) w:=by rw[run_callFunc_indexByte Tryz.func177 (by kernel_rfl) (by kernel_rfl) (by kernel_rfl) (by kernel_rfl),run_indexByteString];rfl
theorem amu (s:ByteArray)(c:Int)(W:World):Calls Tryz.prog 165 #[.string s, .int .u8 c] W fun e w'=>e= .returned (.int .i64 (indexByte s.data.toList c.toNat.toUInt8))∧w'=W:=by
 have hd:=ao7 s c W
 go_enter Tryz.func165,Tryz.ntmps165
 go_wp2
 go_ret
 exact⟨rfl,rfl⟩
theorem Lj (c:Int)(hc:0≤c)(hc2:c<256):∀(l:List UInt8) (i:Nat),WJ c i l=bif Go.Lib.indexByte l c.toNat.toUInt8== -1 then -1 else i+Go.Lib.indexByte l c.toNat.toUInt8
 | [],i=>rfl
 |x::r,i=>by
  have ih:=Lj c hc hc2 r (i+1);have hge:=indexByte_ge r c.toNat.toUInt8;have e:((x.toNat:Int)==c)=(x==c.toNat.toUInt8):=by
   rw[Bool.eq_iff_iff,beq_iff_eq,beq_iff_eq];constructor
   ·intro h;subst h;simp
   ·intro h;subst h;simp;omega
  simp only[WJ,indexByte,e,ih];generalize c.toNat.toUInt8=u at hge ⊢;cases hx:(x==u) with
  |true=>simp
  |false=>
   cases hi:(indexByte r u== -1) with
   |true=>simp
   |false=>
    have h1:(indexByte r u+1== -1)=false:=by rw[beq_eq_false_iff_ne];omega
    simp[h1];omega
theorem OT {T:dc}{v d:Nat}{xh:CS T v}{yh:wN T v}(hh:(T.sig v).af=[])(hu:Mq d (T.sig v) (wJ _ yh)=[]):yy T v d xh yh=aK (aO T v xh):=by
 unfold yy;rw[hu];have:∀{hs:List Nat} (h:hs=[]) (x:FZ T hs) (l:List aQ),rR T hs hs x l=l:=fun h x l=>by subst h;rfl
 unfold rZ;rw[this (by simp[JZ.hout,hh])];rfl
theorem amv (x:ByteArray×Int)(y:Int)(h:(bif decide (0≤x.2)&&decide (x.2<256) then some (WJ x.2 0 x.1.data.toList) else none)=some y):N3 Tryz.prog T 165 x y:=by
 refine⟨⟨_,Tryz.func165,by kernel_rfl,by kernel_rfl⟩,fun E ν args d hE hG hC hst hargs=> ?_⟩;have hs:yy T 165 d x y=aK (aO T 165 x):=OT rfl rfl;obtain⟨s,c⟩:=x;obtain⟨v1,r1,e1,h1,v2,e2,h2⟩:nZ _ [.v .str, .v (.int .u8)] (s,c) args.toList:=hargs;have h1': [v1]=[.string s]:=h1;have h2': [v2]=[.int .u8 c]:=h2;simp only[List.cons.injEq,and_true] at h1' h2';subst h1' h2' e2;obtain rfl:args= #[.string s, .int .u8 c]:=by cases args;simp_all
 cases hc:decide (0≤c)&&decide (c<256) with
 |false=>simp only[hc,cond_false] at h;cases h
 |true=>
  simp only[Bool.and_eq_true,decide_eq_true_eq] at hc;refine(amu s c E.w0).mono fun e w' ⟨he,hw⟩=> ?_;subst he hw;refine⟨_,ν,rfl,by rw[hs];exact hst, ?_⟩;rw[hs];have e3:y=indexByte s.data.toList c.toNat.toUInt8:=by
   have h':WJ c 0 s.data.toList=y:=by simpa [hc.1,hc.2] using h
   rw[←h',Lj c hc.1 hc.2];cases hi:(indexByte s.data.toList c.toNat.toUInt8== -1) with
   |true=>simpa using (beq_iff_eq.1 hi).symm
   |false=>simp
  rw[e3];show [Value.int .i64 _]=[Value.int .i64 _]
  rfl
abbrev agZ:cj T:=fun _ _=>none
theorem atP:aaU Tryz.prog T agZ:=fun v xh yh h=>by cases h
theorem aq8:abk Tryz.prog T agZ:=fun v xh yh h=>by cases h
theorem ao8:Tryz.f84.body.isSome=true:=by kernel_rfl
noncomputable def VH:Code:=Tryz.f84.body.get ao8
theorem aq9:Tryz.f84.body=some VH:=by kernel_rfl
theorem adF:Ke T Tryz.f84 VH agZ 0 100084 (none:Option (List tTb.den))=some ([]:List tTb.den):=by kernel_rfl
theorem adG (x:List tTb.den):Ke T Tryz.f84 VH agZ 0 100084 (some x:Option (List tTb.den))=bif aB 16 2 0 x.length then some x else none:=by kernel_rfl
theorem ajW {E:Env}{x:CS T 84}{z:CS T 100084}(h:Go.Abs.Callee T E 84 x):Go.Abs.Callee T E 100084 z:=
 ⟨h.j,h.m,h.om,h.acc,fun i k hi=>h.hx i k (fun hm:i∈([]:List Nat)=>by cases hm),fun i=>by
   have:=h.ro i;exact this⟩
theorem ajX (o:Option (List tTb.den))(y:List tTb.den)(h:Ke T Tryz.f84 VH agZ 0 100084 o=some y):N3 Tryz.prog T 100084 o y:=
 Vd (v:=100084) afc atP aq8 Tryz.func84 aq9 (by kernel_rfl) rfl h
theorem ao9 (x y:List tTb.den)(h:(bif aB 16 2 0 x.length then some x else none)=some y):N3 Tryz.prog T 84 x y:=by
 refine⟨⟨_,Tryz.func84,by kernel_rfl,by kernel_rfl⟩,fun E ν args d hE hG hC hst hargs=> ?_⟩;have hs0:∀z:CS T 84,aO T 84 z=c8 T:=fun z=>E0 rfl;have hs1:∀z:CS T 100084,aO T 100084 z=c8 T:=fun z=>E0 rfl;have go:∀o:Option (List tTb.den),Ke T Tryz.f84 VH agZ 0 100084 o=some y→nZ (view E (aK (c8 T)) ν (fun _=>False) E.w0) [.v (.qG tTb)] o args.toList→Calls Tryz.prog 84 args E.w0 (Go.Abs.Left T E 84 x y d):=fun o ho ha=>by refine((ajX o y ho).2 E ν args d hE hG (ajW hC) (by rw[hs1 o];rw[hs0 x] at hst;exact hst) (by rw[hs1 o];exact ha)).mono ?_;rintro e w' ⟨r,aN,rfl,h1,h2⟩;have e1:yy T 100084 d o y=aK (c8 T):=(OT (T:=T) (v:=100084) rfl rfl).trans (congrArg aK (hs1 o));have e2:yy T 84 d x y=aK (c8 T):=(OT (T:=T) (v:=84) rfl rfl).trans (congrArg aK (hs0 x));rw[e1] at h1 h2;refine⟨r,aN,rfl,by rw[e2];exact h1, ?_⟩;rw[e2];exact h2
 rw[hs0 x] at hst hargs;obtain⟨v,e1,A,c,bG,h1,h2,h3,h4,h5⟩:nZ _ [.v (.slice tTb)] x args.toList:=hargs;simp only[List.cons.injEq,and_true] at h1;subst h1;cases A with
 |none=>
  have hx:x=[]:=List.eq_nil_of_length_eq_zero (Nat.le_zero.1 (by have h6:=h4 rfl;subst h6;exact h2));have hc:=h4 rfl;subst hx hc;have hy:y=[]:=by have h':(some []:Option (List tTb.den))=some y:=h;simpa using h'.symm
  subst hy;exact go none adF ⟨_,e1,rfl⟩
 |some ad=>refine go (some x) ((adG x).trans h) ⟨_,e1,ad,c,bG,rfl,h2,h3,fun j u hj=> ?_⟩;obtain⟨Q3,e2,hv⟩:=h5 j u hj;cases e2;exact hv
theorem amw:adx Tryz.prog T B:=fun v g hg=>by
 unfold B at hg;split at hg
 ·cases hg;exact⟨rfl,ao5⟩
 ·cases hg;exact⟨rfl,ao9⟩
 ·cases hg;exact⟨rfl,amv⟩
 ·cases hg
end Go.Proofs.YtofjebmoebhiiaaGreatDoor.Ev
namespace Go.Abs
theorem Ba {a b:Int}(h:a<b):decide (a<b)=true:=decide_eq_true h
theorem y6 {a b:Int}(h:¬a<b):decide (a<b)=false:=decide_eq_false h
theorem ara {a b:Int}(h:a≤b):decide (a≤b)=true:=decide_eq_true h
theorem ajY {a b:Int}(h:¬a≤b):decide (a≤b)=false:=decide_eq_false h
theorem ajZ {a b:Int}(h:a>b):decide (a>b)=true:=decide_eq_true h
theorem anN {a b:Int}(h:¬a>b):decide (a>b)=false:=decide_eq_false h
theorem aff {a b:Int}(h:a≥b):decide (a≥b)=true:=decide_eq_true h
theorem abL {a b:Int}(h:¬a≥b):decide (a≥b)=false:=decide_eq_false h
theorem afg {a b:Int}(h:a=b):(a==b)=true:=beq_iff_eq.2 h
theorem Lk {a b:Int}(h:¬a=b):(a==b)=false:=by simpa using h
theorem aj0 {a b:Int}(h:¬a=b):(a != b)=true:=by simpa [bne] using h
theorem aj1 {a b:Int}(h:a=b):(a != b)=false:=by simp[bne,h]
theorem sS {xs:List Int}{i:Int}(h0:0≤i)(h:i<xs.length):idx xs i=some (xs.getD i.toNat 0):=by
 obtain⟨n,rfl⟩:=Int.eq_ofNat_of_zero_le h0;show xs[n]? =_;have:n<xs.length:=by omega
 simp[List.getD,this]
theorem VI {xs:List Int}{k:Nat}(h:k<xs.length):xs[k]? =some (xs.getD k 0):=by simp[List.getD,h]
theorem afh {α:Type}(d:α){xs:List α}{i:Int}(h0:0≤i)(h:i<xs.length):idx xs i=some (xs.getD i.toNat d):=by
 obtain⟨n,rfl⟩:=Int.eq_ofNat_of_zero_le h0;show xs[n]? =_;have:n<xs.length:=by omega
 simp[List.getD,this]
theorem T0 {b s n m:Nat}(h0:0<s)(h:(n+m)*b≤140737488355328):aB b s n m=true:=by unfold aB;rw[Bool.and_eq_true];exact⟨Nat.ble_eq_true_of_le h0,Nat.ble_eq_true_of_le h⟩
theorem Qn {b:Nat}{l c:Int}(h0:0≤l)(h1:l≤c)(h2:(b:Int)*c≤140737488355328):ic b l c=true:=by unfold ic;simp[h0,h1,h2]
theorem afi {n:Nat}{l h:Int}(h0:0≤l)(h1:l≤h)(h2:h≤n):dW n l h=true:=by unfold dW;simp[h0,h1,h2]
theorem arb {a b:Nat}(h:a≤b):Nat.ble a b=true:=Nat.ble_eq_true_of_le h
def val (B:Int):List Int→Int
 | []=>0
 |x::xs=>x+B*val B xs
def i6 (B:Int)(d:List Int):Prop:=∀x∈d,0≤x∧x<B
theorem i6.nil {B:Int}:i6 B []:=fun x h=>by cases h
theorem i6.cons {B x:Int}{d:List Int}(h0:0≤x)(h1:x<B)(h:i6 B d):i6 B (x::d):=fun y hy=>by
 rcases List.mem_cons.1 hy with rfl |hy
 ·exact⟨h0,h1⟩
 ·exact h y hy
theorem i6.head {B x:Int}{d:List Int}(h:i6 B (x::d)):0≤x∧x<B:=h x (by simp)
theorem i6.tail {B x:Int}{d:List Int}(h:i6 B (x::d)):i6 B d:=fun y hy=>h y (by simp[hy])
theorem i6.append {B:Int}{d e:List Int}(h1:i6 B d)(h2:i6 B e):i6 B (d++e):=fun y hy=>by
 rcases List.mem_append.1 hy with hy |hy
 ·exact h1 y hy
 ·exact h2 y hy
theorem i6.left {B:Int}{d e:List Int}(h:i6 B (d++e)):i6 B d:=fun y hy=>h y (by simp[hy])
theorem i6.right {B:Int}{d e:List Int}(h:i6 B (d++e)):i6 B e:=fun y hy=>h y (by simp[hy])
theorem i6.drop {B:Int}{d:List Int}(h:i6 B d)(k:Nat):i6 B (d.drop k):=fun y hy=>h y (List.mem_of_mem_drop hy)
theorem i6.take {B:Int}{d:List Int}(h:i6 B d)(k:Nat):i6 B (d.take k):=fun y hy=>h y (List.mem_of_mem_take hy)
theorem i6.getD {B:Int}{d:List Int}(h:i6 B d)(hB:0<B)(k:Nat):0≤d.getD k 0∧d.getD k 0<B:=by
 by_cases hk:k<d.length
 ·have:d.getD k 0=d[k]:=by simp[List.getD,hk]
  rw[this];exact h _ (List.getElem_mem hk)
 ·have:d.getD k 0=0:=by have h':d[k]? =none:=List.getElem?_eq_none (by omega);simp[List.getD,h']
  rw[this];exact⟨by omega,hB⟩
theorem i6.replicate {B:Int}(hB:0<B)(n:Nat):i6 B (List.replicate n 0):=fun y hy=>by obtain⟨_,rfl⟩:=List.mem_replicate.1 hy;exact⟨by omega,hB⟩
theorem i6.set {B x:Int}{d:List Int}(h:i6 B d)(h0:0≤x)(h1:x<B)(k:Nat):i6 B (d.set k x):=fun y hy=>by
 rcases List.mem_or_eq_of_mem_set hy with hy |rfl
 ·exact h y hy
 ·exact⟨h0,h1⟩
theorem lL {B:Int}(hB:0≤B):∀{d:List Int},i6 B d→0≤val B d
 | [],_=>by simp[val]
 |x::d,h=>by have h1:=h.head.1;have h2:=lL hB h.tail;have:=Int.mul_nonneg hB h2;simp only[val];omega
theorem gE (B:Int):∀(d e:List Int),val B (d++e)=val B d+B^d.length*val B e
 | [],e=>by simp[val]
 |x::d,e=>by simp only[List.cons_append,val,gE B d e,List.length_cons,Int.pow_succ,Int.mul_add];rw[←Int.mul_assoc,Int.mul_comm B (B^d.length)];omega
theorem NH (B:Int)(n:Nat):val B (List.replicate n 0)=0:=by
 induction n with
 |zero=>rfl
 |succ n ih=>rw[List.replicate_succ,val,ih];simp
theorem BH {B:Int}(hB:0<B):∀{d:List Int},i6 B d→val B d<B^d.length
 | [],_=>by simp[val]
 |x::d,h=>by have h1:=h.head.2;have h2:=BH hB h.tail;have h3:B*(val B d+1)≤B*B^d.length:=Int.mul_le_mul_of_nonneg_left (by omega) (by omega);simp only[val,List.length_cons,Int.pow_succ];rw[Int.mul_comm (B^d.length) B];rw[Int.mul_add] at h3;omega
def pc:List Int→List Int
 | []=>[]
 |x::xs=>match pc xs with
  | []=>if x=0 then [] else [x]
  |y::ys=>x::y::ys
theorem Bb:∀d:List Int,pc (d++[0])=pc d
 | []=>rfl
 |x::d=>by simp only[List.cons_append,pc,Bb d]
theorem Eu {y:Int}(hy:y≠0):∀d:List Int,pc (d++[y])=d++[y]
 | []=>by simp[pc,hy]
 |x::d=>by simp only[List.cons_append,pc,Eu hy d];cases d<;>rfl
theorem CL:∀d:List Int,(pc d).length≤d.length
 | []=>Nat.le_refl _
 |x::d=>by
  have:=CL d;simp only[pc];split
  ·split<;>simp
  ·rename_i y ys h;rw[h] at this;simp at this ⊢;omega
def Wp (B:Nat)(n:Nat):List Int:=if h:n=0∨B≤1 then [] else ((n % B:Nat):Int)::Wp B (n / B)
termination_by n
decreasing_by exact Nat.div_lt_self (by omega) (by omega)
theorem fp (B:Nat):Wp B 0=[]:=by rw[Wp];simp
theorem Al {B n:Nat}(hB:1<B)(hn:0<n):Wp B n=((n % B:Nat):Int)::Wp B (n / B):=by rw[Wp,dif_neg (by omega)]
theorem nR {B n:Nat}(hB:1<B):Wp B n=[]↔n=0:=by
 constructor
 ·intro h;by_cases hn:n=0
  ·exact hn
  ·rw[Al hB (by omega)] at h;cases h
 ·rintro rfl;exact fp B
theorem Zp {B:Nat}(hB:1<B):∀n,i6 B (Wp B n):=by
 intro n;induction n using Nat.strongRecOn with
 |ind n ih=>
  by_cases hn:n=0
  ·subst hn;rw[fp];exact i6.nil
  ·rw[Al hB (by omega)];have:=Nat.mod_lt n (show B>0 by omega);exact i6.cons (by omega) (by omega) (ih _ (Nat.div_lt_self (by omega) hB))
theorem Zq {B:Nat}(hB:1<B):∀n,val B (Wp B n)=n:=by
 intro n;induction n using Nat.strongRecOn with
 |ind n ih=>
  by_cases hn:n=0
  ·subst hn;rw[fp];rfl
  ·rw[Al hB (by omega),val,ih _ (Nat.div_lt_self (by omega) hB)];have:=Nat.mod_add_div n B;omega
theorem Hv {B:Nat}(hB:1<B):∀d:List Int,i6 B d→pc d=Wp B (val B d).toNat
 | [],_=>by simp[pc,val,fp]
 |x::d,h=>by
  have ih:=Hv hB d h.tail;have hx:=h.head;have hv:=lL (B:=B) (by omega) h.tail;obtain⟨v,hv'⟩:=Int.eq_ofNat_of_zero_le hv;obtain⟨a,rfl⟩:=Int.eq_ofNat_of_zero_le hx.1;have hab:a<B:=by omega
  simp only[pc,val,hv'];rw[hv'] at ih;have e:((a:Int)+(B:Int)*(v:Int)).toNat=a+B*v:=by rw[←Int.natCast_mul, ←Int.natCast_add];exact Int.toNat_natCast _
  rw[e];simp only[Int.toNat_natCast] at ih;by_cases hv0:v=0
  ·subst hv0;rw[fp] at ih;rw[ih];simp only;by_cases ha:a=0
   ·subst ha;simp[fp]
   ·rw[Al hB (by omega)];have h1:(a+B*0) % B=a:=by simp[Nat.mod_eq_of_lt hab]
    have h2:(a+B*0) / B=0:=by simp[Nat.div_eq_of_lt hab]
    rw[h1,h2,fp,if_neg (by omega)]
  ·have hpos:0<a+B*v:=by have:0<B*v:=Nat.mul_pos (by omega) (by omega);omega
   rw[Al hB hpos];have h1:(a+B*v) % B=a:=by rw[Nat.add_mul_mod_self_left,Nat.mod_eq_of_lt hab]
   have h2:(a+B*v) / B=v:=by rw[Nat.add_mul_div_left _ _ (by omega:0<B),Nat.div_eq_of_lt hab];omega
   rw[h1,h2,ih];have hne:Wp B v≠ []:=fun e=>hv0 ((nR hB).1 e);split
   ·rename_i e;exact absurd e hne
   ·rename_i y ys e;rw[e]
theorem adH {B:Nat}(hB:1<B){d:List Int}(h:i6 B d)(ht:pc d=d):d=Wp B (val B d).toNat:=by rw[←Hv hB d h,ht]
theorem Qo {B:Nat}(hB:1<B)(n:Nat):pc (Wp B n)=Wp B n:=by rw[Hv hB _ (Zp hB n),Zq hB];rfl
theorem aS {B:Nat}(hB:1<B):∀(k n:Nat),(Wp B n).length≤k↔n<B^k
 |0,n=>by
  rw[Nat.pow_zero];constructor
  ·intro h;have:=(nR (n:=n) hB).1 (List.length_eq_zero_iff.1 (Nat.le_zero.1 h));omega
  ·intro h;have:n=0:=by omega
   subst this;simp[fp]
 |k+1,n=>by
  by_cases hn:n=0
  ·subst hn;simp only[fp,List.length_nil];exact⟨fun _=>Nat.pow_pos (by omega),fun _=>by omega⟩
  ·rw[Al hB (by omega),List.length_cons];have:=aS hB k (n / B);rw[Nat.pow_succ, ←Nat.div_lt_iff_lt_mul (by omega)];omega
theorem ia {B:Nat}(hB:1<B)(k n:Nat):k<(Wp B n).length↔B^k≤n:=by have:=aS hB k n;omega
theorem S9 {B:Nat}(hB:1<B){n:Nat}:∀{d:List Int} {y:Int},Wp B n=d++[y]→y≠0:=by intro d y h hy;subst hy;have h1:=Qo hB n;rw[h,Bb] at h1;have h2:=CL d;rw[h1] at h2;simp at h2;omega
theorem tj (l:List Int)(k j:Nat):(l.drop k).getD j 0=l.getD (k+j) 0:=by simp[List.getD,List.getElem?_drop]
theorem drop_eq {l:List Int}{k:Nat}(h:k<l.length):l.drop k=l.getD k 0::l.drop (k+1):=by rw[List.drop_eq_getElem_cons h];simp[List.getD,h]
theorem drop_nil {l:List Int}{k:Nat}(h:l.length≤k):l.drop k=[]:=List.drop_eq_nil_of_le h
theorem getD_none {l:List Int}{k:Nat}(h:l.length≤k):l.getD k 0=0:=by have h':l[k]? =none:=List.getElem?_eq_none (by omega);simp[List.getD,h']
theorem arc {α:Type}(d:List α)(h:Int):cut d 0 h=d.take h.toNat:=by simp[cut]
theorem bD {a b:Int}(h:0≤a):a.tmod b=a % b:=Int.tmod_eq_emod_of_nonneg h
theorem ns {a b:Int}(h:0≤a):a.tdiv b=a / b:=Int.tdiv_eq_ediv_of_nonneg h
theorem eJ {l:List Int}{k:Nat}(h:k<l.length):l.take (k+1)=l.take k++[l.getD k 0]:=by rw[List.take_add_one];simp[List.getD,h]
def nX (x y:Int):Int:=if x<y then -1 else if y<x then 1 else 0
theorem ow {x y:Int}(h:x<y):nX x y= -1:=by unfold nX;rw[if_pos h]
theorem qs {x y:Int}(h:y<x):nX x y=1:=by unfold nX;rw[if_neg (by omega),if_pos h]
theorem yi {x y:Int}(h:x=y):nX x y=0:=by unfold nX;rw[if_neg (by omega),if_neg (by omega)]
theorem OU {x y:Int}:nX x y<0↔x<y:=by
 unfold nX;by_cases h1:x<y
 ·rw[if_pos h1];omega
 ·rw[if_neg h1];split<;>omega
theorem Zr {B:Int}(hB:0<B){d e:List Int}{x y:Int}(hd:i6 B d)(he:i6 B e)(hl:d.length=e.length)(h:x<y):val B (d++[x])<val B (e++[y]):=by
 rw[gE,gE];have h1:=BH hB hd;have h2:=lL (by omega) he;rw[hl] at h1 ⊢;have h3:B^e.length*(x+1)≤B^e.length*y:=Int.mul_le_mul_of_nonneg_left (by omega) (Int.pow_nonneg (by omega));rw[Int.mul_add] at h3;simp only[val];simp only[Int.mul_zero,Int.add_zero] at*
 omega
section
variable {α β:Type}{x y:α}{a b:Int}
theorem cT (x y:α):(bif true then x else y)=x:=(cond_true x y).trans (Eq.refl x)
theorem cF (x y:α):(bif false then x else y)=y:=(cond_false x y).trans (Eq.refl y)
theorem bS (z:α)(f:α→Option β):(some z).bind f=f z:=(Option.bind_some z f).trans (Eq.refl _)
theorem c_t {c:Bool}(h:c=true):(bif c then x else y)=x:=by rw[h];exact cT _ _
theorem c_f {c:Bool}(h:c=false):(bif c then x else y)=y:=by rw[h];exact cF _ _
theorem au (h:a<b):(bif decide (a<b) then x else y)=x:=c_t (Ba h)
theorem al (h:¬a<b):(bif decide (a<b) then x else y)=y:=c_f (y6 h)
theorem Ll (h:a≤b):(bif decide (a≤b) then x else y)=x:=c_t (ara h)
theorem Qp (h:¬a≤b):(bif decide (a≤b) then x else y)=y:=c_f (ajY h)
theorem da (h:a>b):(bif decide (a>b) then x else y)=x:=c_t (ajZ h)
theorem dA (h:¬a>b):(bif decide (a>b) then x else y)=y:=c_f (anN h)
theorem y7 (h:a≥b):(bif decide (a≥b) then x else y)=x:=c_t (aff h)
theorem wF (h:¬a≥b):(bif decide (a≥b) then x else y)=y:=c_f (abL h)
theorem iZ (h:a=b):(bif a==b then x else y)=x:=c_t (afg h)
theorem ft (h:¬a=b):(bif a==b then x else y)=y:=c_f (Lk h)
theorem kg (h:¬a=b):(bif !(a==b) then x else y)=x:=c_t (by rw[Lk h];exact Eq.refl _)
theorem Hw (h:¬a=b):(bif a != b then x else y)=x:=c_t (aj0 h)
theorem pd (h:a=b):(bif a != b then x else y)=y:=c_f (aj1 h)
theorem iG {p s n m:Nat}(h0:0<s)(h:(n+m)*p≤140737488355328):(bif aB p s n m then x else y)=x:=c_t (T0 h0 h)
theorem CD {p:Nat}{l c:Int}(h0:0≤l)(h1:l≤c)(h2:(p:Int)*c≤140737488355328):(bif ic p l c then x else y)=x:=c_t (Qn h0 h1 h2)
theorem Gy {n:Nat}{l h:Int}(h0:0≤l)(h1:l≤h)(h2:h≤n):(bif dW n l h then x else y)=x:=c_t (afi h0 h1 h2)
theorem atQ {m n:Nat}(h:m≤n):(bif Nat.ble m n then x else y)=x:=c_t (arb h)
theorem gV {xs:List Int}{i:Int}{f:Int→Option β}(h0:0≤i)(h:i<xs.length):(idx xs i).bind f=f (xs.getD i.toNat 0):=by rw[sS h0 h];exact bS _ _
theorem rS {xs:List Int}{k:Nat}{f:Int→Option β}(h:k<xs.length):(xs[k]?).bind f=f (xs.getD k 0):=by rw[VI h];exact bS _ _
end
end Go.Abs
namespace Go.Proofs.YtofjebmoebhiiaaGreatDoor.Ev
open Go.Abs Go.IntWalk
abbrev VU (d:List Int):Int:=val 1000000000 d
abbrev DU (d:List Int):Prop:=i6 1000000000 d
abbrev dU (n:Nat):List Int:=Wp 1000000000 n
theorem JX (n:Nat):DU (dU n):=Zp (B:=1000000000) (by omega) n
theorem Lm (n:Nat):VU (dU n)=n:=Zq (B:=1000000000) (by omega) n
theorem afk {d:List Int}(h:DU d):pc d=dU (VU d).toNat:=Hv (B:=1000000000) (by omega) d h
theorem zL {d:List Int}(h:DU d):0≤VU d:=lL (by omega) h
def W (z:Int):Bool×List Int×Unit:=(decide (z<0),dU z.natAbs,())
theorem ag0:∀(n:Nat) (d:List Int),d.length=n→n≤1000000000000000→mX d=some (pc d):=by
 intro n;induction n with
 |zero=>intro d hd hn;have:d=[]:=List.length_eq_zero_iff.1 hd;subst this;rw[Dw,Ac];rfl
 |succ n ih=>
  intro d hd hn;obtain⟨d',y,rfl⟩:∃d' y,d=d'++[y]:=by
   have hne:d≠ []:=fun e=>by rw[e] at hd;cases hd
   exact⟨d.dropLast,d.getLast hne,(List.dropLast_concat_getLast hne).symm⟩
  have hl:d'.length=n:=by simpa using hd
  have hy:(d'++[y]).getD d'.length 0=y:=by simp[List.getD]
  have ht:(d'++[y]).take d'.length=d':=by simp
  rw[Dw,Ac];simp only[List.length_append,List.length_cons,List.length_nil];simp (disch:=omega) only[i64_in,ajZ,cond_true,afi,arc];rw[sS (by omega) (by simp;omega)];have e:(((d'.length+(0+1):Nat):Int) - 1).toNat=d'.length:=by omega
  rw[e,hy,ht];simp only[Option.bind_some];by_cases h0:y=0
  ·subst h0;rw[Bb,ih d' hl (by omega)];rfl
  ·rw[Lk h0,Eu h0];rfl
theorem FL {d:List Int}(h:d.length≤1000000000000000):mW d=some (pc d):=by rw[SV,Oh];exact ag0 _ d rfl h
theorem Am {neg:Bool}{d:List Int}(hd:DU d)(h:d.length≤1000000000000000):jh neg d=some (W (bif neg then -VU d else VU d)):=by
 rw[Nt,IA,FL h,afk hd];have hv:=zL hd;obtain⟨v,hv'⟩:=Int.eq_ofNat_of_zero_le hv;rw[hv'];simp only[Option.bind_some,Int.toNat_natCast];have hl:(0<(dU v).length)↔0<v:=by have:=ia (B:=1000000000) (by omega) 0 v;rw[Nat.pow_zero] at this;exact this
 cases neg with
 |true=>have e:decide (((dU v).length:Int)>0)=decide (-(v:Int)<0):=decide_eq_decide.2 ⟨fun h=>by have:=hl.1 (by omega);omega,fun h=>by have:=hl.2 (by omega);omega⟩;simp only[cond_true,W,Int.natAbs_neg,Int.natAbs_natCast,e]
 |false=>simp only[cond_false,W,Int.natAbs_natCast];rw[y6 (by omega)]
theorem ag1 {a b:List Int}(ha:DU a)(hb:DU b)(hl:a.length=b.length)(hl':a.length≤1000000000000):∀(k:Nat),k≤a.length→
  mV a b ((k:Int) - 1)=some (nX (VU (a.take k)) (VU (b.take k))):=by
 intro k;induction k with
 |zero=>intro hk;rw[Dr,Ab];simp (disch:=omega) only[abL,cond_false];simp[nX]
 |succ k ih=>
  intro hk;rw[Dr,Ab];have e:((k+1:Nat):Int) - 1=k:=by omega
  rw[e,eJ (show k<a.length by omega),eJ (show k<b.length by omega)];simp (disch:=omega) only[aff,cond_true,sS,Option.bind_some,Int.toNat_natCast,i64_in];have hta:(a.take k).length=(b.take k).length:=by simp;omega
  by_cases h:a.getD k 0=b.getD k 0
  ·rw[aj1 h,ih (by omega)];simp only[cond_false,VU,gE,hta,h];generalize (1000000000:Int)^(b.take k).length*val 1000000000 [b.getD k 0]=z;by_cases h1:val 1000000000 (a.take k)<val 1000000000 (b.take k)
   ·rw[ow h1,ow (by omega)]
   ·by_cases h2:val 1000000000 (b.take k)<val 1000000000 (a.take k)
    ·rw[qs h2,qs (by omega)]
    ·rw[yi (by omega),yi (by omega)]
  ·rw[aj0 h];simp only[cond_true];by_cases h1:a.getD k 0<b.getD k 0
   ·rw[Ba h1];rw[ow (Zr (by omega) (ha.take k) (hb.take k) hta h1)];rfl
   ·rw[y6 h1];rw[qs (Zr (by omega) (hb.take k) (ha.take k) hta.symm (by omega))];rfl
theorem Lo {m n:Nat}(hm:(dU m).length≤1000000000000)(hn:(dU n).length≤1000000000000):w6 (dU m) (dU n)=some (nX m n):=by
 rw[SR,Oe];by_cases h:(dU m).length=(dU n).length
 ·have:=ag1 (JX m) (JX n) h hm (dU m).length (Nat.le_refl _);rw[aj1 (by omega)];simp (disch:=omega) only[cond_false,i64_in];rw[this,h,List.take_length];rw[←h,List.take_length,Lm,Lm]
 ·rw[aj0 (by omega)];have l1:=(aS (B:=1000000000) (by omega) (dU m).length m).1 (Nat.le_refl _);have l2:=(aS (B:=1000000000) (by omega) (dU n).length n).1 (Nat.le_refl _);simp only[cond_true];by_cases h1:(dU m).length<(dU n).length
  ·rw[Ba (by omega)];have:=(ia (B:=1000000000) (by omega) (dU m).length n).1 h1;rw[ow (by omega)];rfl
  ·rw[y6 (by omega)];have:=(ia (B:=1000000000) (by omega) (dU n).length m).1 (show (dU n).length<(dU m).length by omega);rw[qs (by omega)];rfl
theorem aj3 {m n:Nat}(h:m≤n):(dU m).length≤(dU n).length:=by have l2:=(aS (B:=1000000000) (by omega) (dU n).length n).1 (Nat.le_refl _);exact(aS (B:=1000000000) (by omega) (dU n).length m).2 (by omega)
def Ln (z:Int):Nat:=(dU z.natAbs).length
theorem Hx (z:Int)(k:Nat):Ln z≤k↔z.natAbs<1000000000^k:=aS (B:=1000000000) (by omega) k z.natAbs
theorem afl (z:Int):z.natAbs<1000000000^Ln z:=(Hx z _).1 (Nat.le_refl _)
theorem amx {x y:Int}(h:x.natAbs≤y.natAbs):Ln x≤Ln y:=aj3 h
theorem aj4 (x y:Int):Ln (x*y)≤Ln x+Ln y:=by rw[Hx,Int.natAbs_mul,Nat.pow_add];have h1:=afl x;have h2:=afl y;exact Nat.mul_lt_mul'' h1 h2
theorem yj (z:Int):((W z).1,((W z).2.1,()))=W z:=rfl
theorem W_1 (z:Int):(W z).1=decide (z<0):=rfl
theorem W_2 (z:Int):(W z).2.1=dU z.natAbs:=rfl
theorem qt (z:Int):(dU z.natAbs).length=Ln z:=rfl
theorem RY {x:Int}(hx:Ln x≤100000000000):nC (W x)=some (W (-x)):=by
 rw[GZ,Bv];simp only[W_1,W_2];rw[Am (JX _) (show (dU x.natAbs).length≤_ by rw[qt];omega),Lm];by_cases h:x<0
 ·rw[Ba h];have:(bif !true then -(x.natAbs:Int) else (x.natAbs:Int))= -x:=by simp only[Bool.not_true,cond_false];omega
  rw[this];rfl
 ·rw[y6 h];have:(bif !false then -(x.natAbs:Int) else (x.natAbs:Int))= -x:=by simp only[Bool.not_false,cond_true];omega
  rw[this];rfl
theorem aj5 (x:Int):((W x).2.1.length:Int)=(Ln x:Int):=rfl
theorem Bc (x:Int):Ln x=0↔x=0:=by have:=Hx x 0;rw[Nat.pow_zero] at this;omega
def adI (x:Int):Int:=if x<0 then -1 else if 0<x then 1 else 0
theorem yk (x:Int):ik (W x)=some (adI x):=by
 rw[Fk,zw,aj5,W_1];have h0:=Bc x;unfold adI;by_cases hz:x=0
 ·rw[afg (by omega)];simp[hz]
 ·rw[Lk (by omega)];simp only[cond_false];by_cases h:x<0
  ·rw[Ba h,if_pos h];rfl
  ·rw[y6 h,if_neg h,if_pos (by omega)];rfl
theorem kX {x y:Int}(hx:Ln x≤100000000000)(hy:Ln y≤100000000000):gp (W x) (W y)=some (nX x y):=by
 rw[GX,Bt];simp only[W_1,W_2];rw[Lo (show (dU x.natAbs).length≤_ by rw[qt];omega) (show (dU y.natAbs).length≤_ by rw[qt];omega),
  Lo (show (dU y.natAbs).length≤_ by rw[qt];omega) (show (dU x.natAbs).length≤_ by rw[qt];omega)]
 simp only[Option.bind_some];by_cases h1:x<0<;>by_cases h2:y<0
 ·rw[Ba h1,Ba h2];simp only[beq_self_eq_true,Bool.not_true,cond_false,cond_true,Option.some.injEq];unfold nX;by_cases h3:x<y
  ·rw[if_pos h3,if_pos (by omega)]
  ·rw[if_neg h3,if_neg (by omega)];by_cases h4:y<x
   ·rw[if_pos h4,if_pos (by omega)]
   ·rw[if_neg h4,if_neg (by omega)]
 ·rw[Ba h1,y6 h2,ow (x:=x) (y:=y) (by omega)];rfl
 ·rw[y6 h1,Ba h2,qs (x:=x) (y:=y) (by omega)];rfl
 ·rw[y6 h1,y6 h2];simp only[beq_self_eq_true,Bool.not_true,cond_false,Option.some.injEq];unfold nX;by_cases h3:x<y
  ·rw[if_pos h3,if_pos (by omega)]
  ·rw[if_neg h3,if_neg (by omega)];by_cases h4:y<x
   ·rw[if_pos h4,if_pos (by omega)]
   ·rw[if_neg h4,if_neg (by omega)]
theorem afm (neg:Bool)(t:Bool)(t2:List Int):∀(n:Nat) (u:Nat) (d:List Int),u<1000000000^n→u<18446744073709551616→d.length+n≤1000→ta u neg d t t2=some (neg,(d++dU u,())):=by
 intro n;induction n with
 |zero=>
  intro u d hu hu' hd;have:u=0:=by rw[Nat.pow_zero] at hu;omega
  subst this;rw[Iy,Fh];simp[dU,fp]
 |succ n ih=>
  intro u d hu hu' hd;rw[Iy,Fh];by_cases h0:u=0
  ·subst h0;simp[dU,fp]
  ·have ht:([(u:Int) % 1000000000]:List Int).length=1:=rfl;simp (disch:=omega) only[ajZ,cond_true,bD,u32_in,u64_quo,ht,T0];have e1:((u:Int) / 1000000000)=((u / 1000000000:Nat):Int):=by omega
   have e2:((u:Int) % 1000000000)=((u % 1000000000:Nat):Int):=by omega
   rw[Nat.pow_succ] at hu;rw[e1,e2,ih (u / 1000000000) _ (by omega) (by omega) (by simp;omega)];rw[show dU u=_ from Al (B:=1000000000) (by omega) (by omega)];simp
theorem X0 {n:Int}(h0: -9223372036854775808≤n)(h1:n≤9223372036854775807):wY n=some (W n):=by
 rw[XX,Vp];by_cases h:n<0
 ·have e1:IntKind.wrap .u64 n=n+18446744073709551616:=by rw[IntKind.wrap_u64];omega
  have e2:IntKind.wrap .u64 (0 - (n+18446744073709551616))=(n.natAbs:Int):=by rw[IntKind.wrap_u64];omega
  rw[Ba h,e1,e2,afm _ _ _ 3 n.natAbs [] (by omega) (by omega) (by simp)];simp[W,h]
 ·have e1:IntKind.wrap .u64 n=(n.natAbs:Int):=by rw[IntKind.wrap_u64];omega
  rw[y6 h,e1,afm _ _ _ 3 n.natAbs [] (by omega) (by omega) (by simp)];simp[W,h]
end Go.Proofs.YtofjebmoebhiiaaGreatDoor.Ev
