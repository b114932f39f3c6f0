/- YtcopbdamkjladaaXd: a part of the proof (Tab, Defs, Eqnum ..). No condition. -/
import Derived.Test.YtcopbdamkjladaaXc
import Derived.KernelRfl
import Derived.Test.YtcopbdamkjladaaProg
import Derived.IntWalk
import Derived.Laws.Bits64
set_option linter.unusedVariables false
set_option linter.unusedSimpArgs false
set_option maxRecDepth 100000
set_option exponentiation.threshold 2000
namespace Go.Proofs.Ytcopbdamkjladaa.Ev
open Go.Abs
abbrev ff:Bool:=false
abbrev zI:Ty:= .int .i64
abbrev zV:Ty:= .slice zI
abbrev zM:Ty:= .slice zV
abbrev zL:Ty:= .slice .str
abbrev zW:Ty:= .st (.pair .bool (.pair (.slice (.int .u32)) .unit))
abbrev zB:List (Ty×Option Nat):=[(.bool,none)]
abbrev zX:List (Ty×Option Nat):=[(zI,none)]
abbrev zZ:List (Ty×Option Nat):=[(.str,none)]
abbrev p2:List (Nat×Nat):=[(0,1),(1,1)]
abbrev p3:List (Nat×Nat):=[(0,1),(1,1),(2,1)]
def tr (a:TypeId)(b:Ty)(c:Nat)(d:TypeId)(e:List (Nat×Nat)):eI:=⟨a,b,c,d,e,false⟩
def tys:List eI:=[
 tr 2 zI 8 0 [],
 tr 3 zI 8 0 [],
 tr 4 .bool 1 0 [],
 tr 5 (.int .u8) 1 0 [],
 tr 6 (.int .u8) 1 0 [],
 tr 7 (.st (.pair zI (.pair zI (.pair .bool (.pair (.int .u8) .unit))))) 24 0 [(0,1),(1,1),(2,1),(3,1)],
 tr 8 (.st (.pair zI (.pair zI (.pair .bool (.pair (.int .u8) .unit))))) 24 0 [(0,1),(1,1),(2,1),(3,1)],
 tr 9 .str 16 0 [],
 tr 10 .str 16 0 [],
 tr 11 .str 16 0 [],
 tr 12 (.int .u64) 8 0 [],
 tr 13 (.st (.pair .str (.pair (.int .u64) .unit))) 24 0 p2,
 tr 14 (.st (.pair .str (.pair (.int .u64) .unit))) 24 0 p2,
 tr 21 (.int .i32) 4 0 [],
 tr 22 zM 24 34 [],
 tr 23 zI 8 0 [],
 tr 28 (.slice zL) 24 35 [],
 tr 34 zV 24 3 [],
 tr 35 zL 24 52 [],
 ⟨41,(.st (.pair (.int .u8) (.pair (.int .u8) .unit))),2,0,p2,true⟩,
 tr 42 (.int .i8) 1 0 [],
 tr 52 .str 16 0 [],
 tr 70 (.st (.pair zM (.pair zI .unit))) 32 0 p2,
 tr 71 (.slice (.st (.pair zM (.pair zI .unit)))) 24 70 [],
 tr 76 (.slice (.slice zW)) 24 84 [],
 tr 77 (.slice (.slice zW)) 24 84 [],
 tr 80 (.slice (.int .u32)) 24 142 [],
 tr 81 zW 32 0 p2,
 tr 82 zW 32 0 p2,
 tr 84 (.slice zW) 24 82 [],
 tr 93 (.ptr 2) 8 0 [],
 tr 96 (.st (.pair (.ref 1) (.pair (.ref 1) (.pair (.ref 1) .unit)))) 72 0 p3,
 tr 97 (.st (.pair (.ref 1) (.pair (.ref 1) (.pair (.ref 1) .unit)))) 72 0 p3,
 tr 110 (.slice (.st (.pair zW (.pair .str .unit)))) 24 114 [],
 tr 113 (.st (.pair zW (.pair .str .unit))) 48 0 [(0,2),(2,1)],
 tr 114 (.st (.pair zW (.pair .str .unit))) 48 0 [(0,2),(2,1)],
 tr 141 (.slice (.int .u8)) 24 5 [],
 tr 142 (.int .u32) 4 0 [],
 tr 146 (.int .u64) 8 0 [],
 tr 164 (.int .u8) 1 0 [],
 tr 165 (.int .u8) 1 0 [],
 tr 168 (.int .i32) 4 0 [],
 tr 169 (.int .i32) 4 0 []]++[1,24,25,26,27,30,31,32,33,37,38,39,40,43,44,45,46,48,49,51,54,55,56,57,58,59,60,62,63,64,66,67,68,69,72,73,74,75,78,79,83,85,87,88,89,90,91,92,95,98,99,100,101,102,103,104,106,107,108,109,112,115,116,118,120,121,122,123,124,126,127,128,129,130,131,133,135,136,137,138,139,140,144,145,148,149,150,151,152,153,155,156,157,158,166].map fun i=>tr i .fn 8 0 []
def ab:List HT:=[⟨82,zW,0⟩,⟨84,(.ref 0),0⟩,⟨97,(.st (.pair (.ref 1) (.pair (.ref 1) (.pair (.ref 1) .unit)))),1⟩]
def aaC:List (Nat×Nat):=[(100063,63)]
def real (v:Nat):Nat:=bif Nat.blt v 100000 then v else (Go.Abs.look aaC v).getD 0
def sg (a:List jM)(b:List Ba):za:=⟨a,b,none,[],none⟩
def sigs:List (Nat×za):=[
 (3,sg [.v zM] zB),
 (11,sg [.v zM] zX),
 (12,sg [.v zM] zX),
 (13,sg [] zB),
 (14,sg [.v zM] [(zM,none)]),
 (15,sg [.v zM] [((.slice zL),none),(zI,none)]),
 (16,sg [.v zM] [((.slice zL),none),(zI,none)]),
 (17,sg [.v (.slice zL), .v (.slice zL)] zB),
 (18,sg [.v zM, .v zM] zB),
 (19,sg [.v zM, .v zV] [(zL,none),(zI,none)]),
 (23,sg [.v zM] [(zL,none),(zI,none)]),
 (25,sg [.v zL, .v zL] zB),
 (27,sg [.v zM] zX),
 (33,sg [.v zM] zX),
 (36,sg [.v zV] [(zV,none)]),
 (37,sg [.v (.slice zL), .v zI] [((.slice zL),none)]),
 (38,sg [.v zM] [((.slice zL),none)]),
 (47,sg [] [(zM,none)]),
 (48,sg [.v zL, .v zI, .v zL] zB),
 (49,sg [.v zM] zX),
 (50,⟨[.v zM],[((.ref 1),none)],none,[(0,true),(1,true)],none⟩),
 (51,⟨[.v (.ref 1)],zX,none,[(0,true),(1,true)],none⟩),
 (52,⟨[.v (.ref 1), .v zI, .v zI],zB,none,[(0,true),(1,true)],none⟩),
 (53,sg [.v zW] zX),
 (54,⟨[.v (.ref 1), .v zI],[],none,[(0,true),(1,true)],none⟩),
 (55,sg [.v zW, .v zW] [(zW,none),(zW,none)]),
 (56,⟨[.v (.ref 1), .v zI, .v zI, .v zW],[],none,[(0,true),(1,true)],none⟩),
 (57,sg [.v zW] [(zW,none)]),
 (58,⟨[.v (.ref 1)],[((.slice zL),none)],none,[(0,ff),(1,ff)],none⟩),
 (59,sg [.v zV, .v zV] zB),
 (60,sg [.v zV] zB),
 (61,⟨[.v zM],[((.ptr 2),none),((.slice zW),none)],none,[(0,true),(1,true),(2,true)],none⟩),
 (62,⟨[.v (.ref 0), .v (.ref 0)],[(zW,none)],none,[(0,ff)],none⟩),
 (63,sg [.v (.slice zW)] [(zL,none)]),
 (64,sg [.v zV] zB),
 (66,sg [.v .str, .v .str] zZ),
 (68,sg [.v .str, .v .str] zZ),
 (69,sg [.v zI] zZ),
 (70,⟨[.v (.ref 1)],[((.slice zW),none)],none,[(0,true),(1,true)],none⟩),
 (72,⟨[.v (.ref 1)],[(zI,none),(zW,none)],none,[(0,true),(1,true)],none⟩),
 (74,sg [.v zW] zZ),
 (77,sg [.v zW, .v zW] zX),
 (78,sg [.v .str, .v .str] zX),
 (79,sg [.v .str, .v zL, .v .str, .v zL] [(zL,none)]),
 (80,sg [.v .str, .v .str] [(.str,none),(.str,none),(.str,none)]),
 (81,sg [.v .str, .v .str] [(.str,none),(.str,none)]),
 (82,sg [.v .str] zZ),
 (84,sg [.v zI] [(zW,none)]),
 (85,sg [.v zW] [(zW,none)]),
 (86,sg [.v zW, .v zW] [(zW,none)]),
 (87,⟨[.v (.ref 1), .v zI, .v zI],[],none,[(0,true),(1,true)],none⟩),
 (88,sg [.v (.slice (.int .u32)), .v (.slice (.int .u32))] [((.slice (.int .u32)),none),((.slice (.int .u32)),none)]),
 (89,sg [.v .bool, .v (.slice (.int .u32))] [(zW,none)]),
 (90,sg [.v zW, .v zW] [(zW,none)]),
 (91,sg [.v zW, .v zW] [(zW,none)]),
 (92,⟨[.v zI],[((.ref 1),none)],none,[(0,true),(1,true)],none⟩),
 (93,⟨[.v (.ptr 2), .v zI],zB,none,[(0,true),(1,true),(2,true)],none⟩),
 (94,⟨[.v (.ptr 2), .v zI],zB,none,[(0,true),(1,true),(2,true)],none⟩),
 (95,⟨[.v (.ptr 2), .v zI],zX,none,[(0,true),(1,true),(2,true)],none⟩),
 (96,⟨[.v (.ptr 2), .v zI, .v zI, .v zW],[],none,[(0,true),(1,true),(2,true)],none⟩),
 (98,sg [.v .str] [(zI,none),(.bool,none)]),
 (99,sg [.v .str] [(.bool,none),(zV,none)]),
 (100,sg [.v .bool, .v zV] zZ),
 (103,sg [.v zV, .v zV] [(zV,none)]),
 (104,sg [.v zV, .v zV] zX),
 (105,sg [.v zV, .v zV] [(zV,none)]),
 (106,⟨[.v (.ref 0), .v zW],[],none,[(0,true)],none⟩),
 (107,⟨[.v (.ref 1), .v zI, .v zW],[],none,[(0,true),(1,true)],none⟩),
 (108,sg [.v zW, .v zW] [(zW,none)]),
 (109,⟨[.v (.ref 1), .v zI, .v zI],[],none,[(0,true),(1,true)],none⟩),
 (110,⟨[.v (.ref 1), .v zI, .v zW],[],none,[(0,true),(1,true)],none⟩),
 (112,sg [.v (.slice (.int .u32)), .v (.slice (.int .u32))] zX),
 (113,sg [.v .str, .v .str] zZ),
 (114,sg [.v zV] [(zV,none)]),
 (116,sg [.v (.slice (.int .u32)), .v (.int .u32)] [((.slice (.int .u32)),none),((.int .u32),none)]),
 (117,sg [.v (.slice (.int .u32))] [((.slice (.int .u32)),none)]),
 (118,sg [.v (.slice (.int .u32)), .v (.slice (.int .u32))] [((.slice (.int .u32)),none),((.slice (.int .u32)),none)]),
 (119,sg [.v (.slice (.int .u32)), .v (.slice (.int .u32))] [((.slice (.int .u32)),none)]),
 (120,sg [.v (.slice (.int .u32)), .v (.slice (.int .u32))] [((.slice (.int .u32)),none)]),
 (121,⟨[.v (.ptr 2), .v zI, .v zI, .v zW],[],none,[(0,true),(1,true),(2,true)],none⟩),
 (124,sg [.v .str] zX),
 (125,⟨[.v (.ref 1), .v zI],zB,none,[(0,true),(1,true)],none⟩),
 (126,⟨[.v (.ref 1), .v zI, .v zI, .v zW],[],none,[(0,true),(1,true)],none⟩),
 (127,sg [.v zI, .v zI] zX),
 (128,sg [.v (.slice (.int .u32))] zX),
 (130,sg [.v (.slice (.int .u32)), .v (.int .u32)] [((.slice (.int .u32)),some 142)]),
 (100063,⟨[.v (.ref 0)],[(zL,none)],none,[(0,ff)],none⟩)]
def sig (v:Nat):za:=(Go.Abs.look sigs v).getD ⟨[],[],none,[],none⟩
def aaD:List (Nat×List Nat):=[]
def V4 (f:Nat):List Nat:=(Go.Abs.look aaD f).getD [f]
def hn (l:List Nat):List (Nat×Bool):=l.map fun i=>(i,false)
def hints:List (Nat×List (List (Nat×Bool))):=[
 (14,[hn [0,3,4]]),
 (15,[hn [5,6,19,20],hn [5,6,7,19,20,40,41]]),
 (17,[hn [0,1,5]]),
 (18,[hn [0,1,5]]),
 (19,[hn [1,7,8,9,48,49,50],hn [9,15,89,90,91]]),
 (25,[hn [0,1,5]]),
 (27,[hn [0,3],hn [0,4],hn [0,5]]),
 (33,[hn [0,12,13,14],hn [0,22,23,24],hn [36,37,38]]),
 (37,[hn [0,1,5,6],hn [0,1,5,6,7,8],hn [0,1,5,18,19],hn [0,1,5,18,19,20],hn [0,1,18],hn [0,1,18,23,24]]),
 (38,[hn [0,3,4],hn [0,3,4,5,6]]),
 (50,[hn [3,11,12,13],hn [3,4,11,12,13,18,19,20]]),
 (52,[hn [0,1,2],hn [0,1,2,7,8],hn [0,1,2,9,10]]),
 (54,[hn [0,1,9,10,11]]),
 (56,[hn [0,1,7,13,14,15]]),
 (58,[hn [3,9,10,11]]),
 (59,[hn [0,1,5]]),
 (60,[hn [5,6,7]]),
 (61,[hn [5,6,24,25],hn [5,6,7,24,25]]),
 (62,[hn [1,4,5,8,9,10]]),
 (63,[hn [3,6,7,8]]),
 (64,[hn [0,3]]),
 (66,[hn [9,10,11,12,13,14],hn [9,10,11,12,13,14,15],hn [9,11,13,16]]),
 (69,[hn [3,5],hn [0,6]]),
 (70,[hn [0,3,19,20,21],hn [0,6,7,41,42],hn [0,6,7,9,56,57],hn [6,9,78,79],hn [6,9,11,12,78,79]]),
 (72,[hn [0,2,3,4],hn [0,2,3,4,5],hn [0,2,3,4,5,6]]),
 (74,[hn [1,3,19,20,21],hn [1,3,5,19,20,21,25],hn [1,3],hn [3,6,7]]),
 (79,[hn [0,1,2,3,9,10]]),
 (80,[hn [7,8,9,10,11,12]]),
 (81,[hn [1,12,13,14,15,17,18,19],hn [1,12,13,14,15,17,18,19,20],hn [1,12,14,17,18,21]]),
 (84,[hn [2,3,4,5]]),
 (86,[hn [2,3,4,5,20,21,22],hn [2,3,4,5,6,7,8,20,21,22,28,29,30]]),
 (92,[hn [0,3,7,8]]),
 (93,[hn [0,1,5,6,7],hn [0,1,5,6,7,8]]),
 (94,[hn [0,1,5,6],hn [0,1,5,9]]),
 (95,[hn [0,1,5,6],hn [0,1,5,6,7]]),
 (98,[hn [0,4,5]]),
 (99,[hn [0,4,5,6]]),
 (100,[hn [1,5,6]]),
 (103,[hn [0,1,5,6,7]]),
 (104,[hn [0,1,5]]),
 (105,[hn [0,1,5,6,7]]),
 (106,[hn [0,3,6,7,8]]),
 (107,[hn [0,1,5,6],hn [0,1,5,6,7],hn [0,1,5,6,7],hn [0,1,5,6,10],hn [0,1,5,6,10],hn [0,1,5,6,10,121,122]]),
 (108,[hn [4,5,6]]),
 (109,[hn [1,2,8,9,10]]),
 (110,[hn [0,1,5,6],hn [0,1,5,6,7]]),
 (112,[hn [0,1,5]]),
 (114,[hn [0]]),
 (116,[hn [0,1,6,7,8]]),
 (117,[hn [0]]),
 (118,[hn [4,6,7,8,9,10],hn [4,6,7,8,9,10,12,13],hn [4,6,7,8,9,10,12,14,123,124],hn [4,6,7,8,9,10,12,17,18,188,189]]),
 (119,[hn [1,5,6,20,21,22]]),
 (120,[hn [1,5,6,13,14,15]]),
 (125,[hn [0,1,5],hn [0,1,5,6]]),
 (126,[hn [1,2,7,10,11,12]]),
 (127,[hn [0,1]]),
 (128,[hn [0,3,4]]),
 (130,[hn [1,5,6,13,14,15]]),
 (100063,[hn [3,6,7,8]])]
def hint (v:Nat):List (List (Nat×Bool)):=(Go.Abs.look hints v).getD []
def YT:List (Nat×List (Nat×Site)):=[(19,[(44, .heap 0)]),(37,[(26, .mN)]),(50,[(2, .heap 1),(10, .heap 1),(32, .heap 0)]),(58,[(19, .vid 100063)]),(70,[(18, .heap 1),(28, .heap 0)]),(92,[(2, .heap 1),(6, .heap 1),(14, .heap 0)])]
def sites (v:Nat):List (Nat×Site):=(Go.Abs.look YT v).getD []
def T:cm:=⟨tys,ab,real,sig,V4,hint,sites,[],[],[(82, "Add",91),(82, "Mul",86),(82, "Neg",57)]⟩
noncomputable def fns:List (Nat×Func):=[(3,Try.f3),(11,Try.f11),(12,Try.f12),(13,Try.f13),(14,Try.f14),(15,Try.f15),(16,Try.f16),(17,Try.f17),(18,Try.f18),(19,Try.f19),(23,Try.f23),(25,Try.f25),(27,Try.f27),(33,Try.f33),(36,Try.f36),(37,Try.f37),(38,Try.f38),(47,Try.f47),(48,Try.f48),(49,Try.f49),(50,Try.f50),(51,Try.f51),(52,Try.f52),(53,Try.f53),(54,Try.f54),(55,Try.f55),(56,Try.f56),(57,Try.f57),(58,Try.f58),(59,Try.f59),(60,Try.f60),(61,Try.f61),(62,Try.f62),(63,Try.f63),(64,Try.f64),(66,Try.f66),(68,Try.f68),(69,Try.f69),(70,Try.f70),(72,Try.f72),(74,Try.f74),(77,Try.f77),(78,Try.f78),(79,Try.f79),(80,Try.f80),(81,Try.f81),(82,Try.f82),(84,Try.f84),(85,Try.f85),(86,Try.f86),(87,Try.f87),(88,Try.f88),(89,Try.f89),(90,Try.f90),(91,Try.f91),(92,Try.f92),(93,Try.f93),(94,Try.f94),(95,Try.f95),(96,Try.f96),(98,Try.f98),(99,Try.f99),(100,Try.f100),(103,Try.f103),(104,Try.f104),(105,Try.f105),(106,Try.f106),(107,Try.f107),(108,Try.f108),(109,Try.f109),(110,Try.f110),(112,Try.f112),(113,Try.f113),(114,Try.f114),(116,Try.f116),(117,Try.f117),(118,Try.f118),(119,Try.f119),(120,Try.f120),(121,Try.f121),(124,Try.f124),(125,Try.f125),(126,Try.f126),(127,Try.f127),(128,Try.f128),(130,Try.f130),(100063,Try.f63)]
def B:Cj T:=fun _=>none
theorem YU:fT Try.prog T.rows:=YN (by kernel_rfl)
theorem mixed:Try.prog.follows .mixedOrders=true:=by kernel_rfl
theorem SU:uT Try.prog T:=UJ (by kernel_rfl)
theorem WS:TL Try.prog T:=YP (by kernel_rfl)
theorem UR:Cq T:=WN (l:=sigs) (by kernel_rfl) fun _=>rfl
theorem US:Nr Try.prog T:=WO (by kernel_rfl)
theorem WT:Cs Try.prog T:=⟨mixed,YU,SU,WS,UR,US⟩
theorem YV:Q8 Try.prog T (Go.Abs.look fns):=IB (
 ⟨⟨Try.func3,by kernel_rfl⟩,⟨Try.func11,by kernel_rfl⟩,⟨Try.func12,by kernel_rfl⟩,⟨Try.func13,by kernel_rfl⟩,⟨Try.func14,by kernel_rfl⟩,⟨Try.func15,by kernel_rfl⟩,⟨Try.func16,by kernel_rfl⟩,⟨Try.func17,by kernel_rfl⟩,⟨Try.func18,by kernel_rfl⟩,⟨Try.func19,by kernel_rfl⟩,⟨Try.func23,by kernel_rfl⟩,⟨Try.func25,by kernel_rfl⟩,⟨Try.func27,by kernel_rfl⟩,⟨Try.func33,by kernel_rfl⟩,⟨Try.func36,by kernel_rfl⟩,⟨Try.func37,by kernel_rfl⟩,⟨Try.func38,by kernel_rfl⟩,⟨Try.func47,by kernel_rfl⟩,⟨Try.func48,by kernel_rfl⟩,⟨Try.func49,by kernel_rfl⟩,⟨Try.func50,by kernel_rfl⟩,⟨Try.func51,by kernel_rfl⟩,⟨Try.func52,by kernel_rfl⟩,⟨Try.func53,by kernel_rfl⟩,⟨Try.func54,by kernel_rfl⟩,⟨Try.func55,by kernel_rfl⟩,⟨Try.func56,by kernel_rfl⟩,⟨Try.func57,by kernel_rfl⟩,⟨Try.func58,by kernel_rfl⟩,⟨Try.func59,by kernel_rfl⟩,⟨Try.func60,by kernel_rfl⟩,⟨Try.func61,by kernel_rfl⟩,⟨Try.func62,by kernel_rfl⟩,⟨Try.func63,by kernel_rfl⟩,⟨Try.func64,by kernel_rfl⟩,⟨Try.func66,by kernel_rfl⟩,⟨Try.func68,by kernel_rfl⟩,⟨Try.func69,by kernel_rfl⟩,⟨Try.func70,by kernel_rfl⟩,⟨Try.func72,by kernel_rfl⟩,⟨Try.func74,by kernel_rfl⟩,⟨Try.func77,by kernel_rfl⟩,⟨Try.func78,by kernel_rfl⟩,⟨Try.func79,by kernel_rfl⟩,⟨Try.func80,by kernel_rfl⟩,⟨Try.func81,by kernel_rfl⟩,⟨Try.func82,by kernel_rfl⟩,⟨Try.func84,by kernel_rfl⟩,⟨Try.func85,by kernel_rfl⟩,⟨Try.func86,by kernel_rfl⟩,⟨Try.func87,by kernel_rfl⟩,⟨Try.func88,by kernel_rfl⟩,⟨Try.func89,by kernel_rfl⟩,⟨Try.func90,by kernel_rfl⟩,⟨Try.func91,by kernel_rfl⟩,⟨Try.func92,by kernel_rfl⟩,⟨Try.func93,by kernel_rfl⟩,⟨Try.func94,by kernel_rfl⟩,⟨Try.func95,by kernel_rfl⟩,⟨Try.func96,by kernel_rfl⟩,⟨Try.func98,by kernel_rfl⟩,⟨Try.func99,by kernel_rfl⟩,⟨Try.func100,by kernel_rfl⟩,⟨Try.func103,by kernel_rfl⟩,⟨Try.func104,by kernel_rfl⟩,⟨Try.func105,by kernel_rfl⟩,⟨Try.func106,by kernel_rfl⟩,⟨Try.func107,by kernel_rfl⟩,⟨Try.func108,by kernel_rfl⟩,⟨Try.func109,by kernel_rfl⟩,⟨Try.func110,by kernel_rfl⟩,⟨Try.func112,by kernel_rfl⟩,⟨Try.func113,by kernel_rfl⟩,⟨Try.func114,by kernel_rfl⟩,⟨Try.func116,by kernel_rfl⟩,⟨Try.func117,by kernel_rfl⟩,⟨Try.func118,by kernel_rfl⟩,⟨Try.func119,by kernel_rfl⟩,⟨Try.func120,by kernel_rfl⟩,⟨Try.func121,by kernel_rfl⟩,⟨Try.func124,by kernel_rfl⟩,⟨Try.func125,by kernel_rfl⟩,⟨Try.func126,by kernel_rfl⟩,⟨Try.func127,by kernel_rfl⟩,⟨Try.func128,by kernel_rfl⟩,⟨Try.func130,by kernel_rfl⟩,⟨Try.func63,by kernel_rfl⟩,trivial⟩)
noncomputable section
abbrev lb:=Bool×List Int×Unit
abbrev zqS:=Nat×Nat×Nat×Unit
noncomputable abbrev lf:Nat→Option Func:=Go.Abs.look fns
abbrev H0:=List (Option (List lb))
abbrev H1:=List (Option (List Nat))
abbrev H2:=List (Option (List zqS))
abbrev hs (a0:H0)(a1:H1)(a2:H2):List bh:=[⟨82, .st (.pair .bool (.pair (.slice (.int .u32)) .unit)),0,true,a0⟩,⟨84, .ref 0,0,true,a1⟩,⟨97, .st (.pair (.ref 1) (.pair (.ref 1) (.pair (.ref 1) .unit))),1,true,a2⟩]
abbrev h0:List bh:=hs [] [] []
abbrev a9 (x:Int):AV:= .rv (.cv ⟨.int .i64,x⟩)
abbrev zU:Ty:= .slice (.int .u32)
abbrev rc (t:Ty)(x:t.den):AV:= .rv (.cv ⟨t,x⟩)
abbrev ro (n:Nat):AV:= .rv (.own n)
abbrev bx (k:Nat):Nat×AV:=(k, .box k 0)
abbrev ce:=BX.cells
abbrev s0 (x:H0):List bh:=hs x [] []
abbrev s1 (x:H1):List bh:=hs [] x []
abbrev s2 (x:H2):List bh:=hs [] [] x
abbrev M3 (v i n:Nat)(a:List (Nat×AV))(r:List (Nat×Row))(b:List (Nat×BX))(h:List bh)(e:CV):=LL T B lf v i ⟨⟨n,a,[]⟩,r,b,h,e,[],T.sites v⟩
abbrev M2 (v i n:Nat)(a:List (Nat×AV))(r:List (Nat×Row))(b:List (Nat×BX))(h:List bh):=M3 v i n a r b h ⟨.unit,()⟩
abbrev M1 (v i n:Nat)(a:List (Nat×AV))(b:List (Nat×BX))(h:List bh):=M2 v i n a [] b h
theorem e1 (v:Nat){x:wj T v}{y:Option (pP T v)}(h:YR T B lf v x=y:=by kernel_rfl):ft T B lf v x=y:=(LR T B lf v x).trans h
theorem l1 (v i:Nat){σ:AS}{y:Option (pP T v)}(h:LL1 T B lf v i σ=y:=by kernel_rfl):LL T B lf v i σ=y:=(aaA T B lf v i σ).trans h
abbrev E1 {A C:Type}(f g:A→C):Prop:=∀a,f a=g a
theorem x1 {A C:Type}{f g:A→C}(h:E1 f g):g=f:=funext fun a=>(h a).symm
abbrev E2 {A C D:Type}(f g:A→C→D):Prop:=∀a b,f a b=g a b
theorem x2 {A C D:Type}{f g:A→C→D}(h:E2 f g):g=f:=funext fun a=>x1 (h a)
abbrev E3 {A C D E:Type}(f g:A→C→D→E):Prop:=∀a b c,f a b c=g a b c
theorem x3 {A C D E:Type}{f g:A→C→D→E}(h:E3 f g):g=f:=funext fun a=>x2 (h a)
abbrev E4 {A C D E F:Type}(f g:A→C→D→E→F):Prop:=∀a b c d,f a b c d=g a b c d
theorem x4 {A C D E F:Type}{f g:A→C→D→E→F}(h:E4 f g):g=f:=funext fun a=>x3 (h a)
abbrev E5 {A C D E F G:Type}(f g:A→C→D→E→F→G):Prop:=∀a b c d e,f a b c d e=g a b c d e
theorem x5 {A C D E F G:Type}{f g:A→C→D→E→F→G}(h:E5 f g):g=f:=funext fun a=>x4 (h a)
abbrev E6 {A C D E F G H:Type}(f g:A→C→D→E→F→G→H):Prop:=∀a b c d e h,f a b c d e h=g a b c d e h
theorem x6 {A C D E F G H:Type}{f g:A→C→D→E→F→G→H}(h:E6 f g):g=f:=funext fun a=>x5 (h a)
abbrev E7 {A C D E F G H I:Type}(f g:A→C→D→E→F→G→H→I):Prop:=∀a b c d e h i,f a b c d e h i=g a b c d e h i
theorem x7 {A C D E F G H I:Type}{f g:A→C→D→E→F→G→H→I}(h:E7 f g):g=f:=funext fun a=>x6 (h a)
abbrev E8 {A C D E F G H I J:Type}(f g:A→C→D→E→F→G→H→I→J):Prop:=∀a b c d e h i j,f a b c d e h i j=g a b c d e h i j
theorem x8 {A C D E F G H I J:Type}{f g:A→C→D→E→F→G→H→I→J}(h:E8 f g):g=f:=funext fun a=>x7 (h a)
abbrev E9 {A C D E F G H I J K:Type}(f g:A→C→D→E→F→G→H→I→J→K):Prop:=∀a b c d e h i j k,f a b c d e h i j k=g a b c d e h i j k
theorem x9 {A C D E F G H I J K:Type}{f g:A→C→D→E→F→G→H→I→J→K}(h:E9 f g):g=f:=funext fun a=>x8 (h a)
abbrev ZB {A C D E F G H I J K L:Type}(f g:A→C→D→E→F→G→H→I→J→K→L):Prop:=∀a b c d e h i j k l,f a b c d e h i j k l=g a b c d e h i j k l
theorem ZC {A C D E F G H I J K L:Type}{f g:A→C→D→E→F→G→H→I→J→K→L}(h:ZB f g):g=f:=funext fun a=>x9 (h a)
abbrev E11 {A C D E F G H I J K L M:Type}(f g:A→C→D→E→F→G→H→I→J→K→L→M):Prop:=∀a b c d e h i j k l m,f a b c d e h i j k l m=g a b c d e h i j k l m
theorem x11 {A C D E F G H I J K L M:Type}{f g:A→C→D→E→F→G→H→I→J→K→L→M}(h:E11 f g):g=f:=funext fun a=>ZC (h a)
abbrev E12 {A C D E F G H I J K L M N:Type}(f g:A→C→D→E→F→G→H→I→J→K→L→M→N):Prop:=∀a b c d e h i j k l m n,f a b c d e h i j k l m n=g a b c d e h i j k l m n
theorem x12 {A C D E F G H I J K L M N:Type}{f g:A→C→D→E→F→G→H→I→J→K→L→M→N}(h:E12 f g):g=f:=funext fun a=>x11 (h a)
abbrev E13 {A C D E F G H I J K L M N O:Type}(f g:A→C→D→E→F→G→H→I→J→K→L→M→N→O):Prop:=∀a b c d e h i j k l m n o,f a b c d e h i j k l m n o=g a b c d e h i j k l m n o
theorem x13 {A C D E F G H I J K L M N O:Type}{f g:A→C→D→E→F→G→H→I→J→K→L→M→N→O}(h:E13 f g):g=f:=funext fun a=>x12 (h a)
abbrev E14 {A C D E F G H I J K L M N O P:Type}(f g:A→C→D→E→F→G→H→I→J→K→L→M→N→O→P):Prop:=∀a b c d e h i j k l m n o p,f a b c d e h i j k l m n o p=g a b c d e h i j k l m n o p
theorem x14 {A C D E F G H I J K L M N O P:Type}{f g:A→C→D→E→F→G→H→I→J→K→L→M→N→O→P}(h:E14 f g):g=f:=funext fun a=>x13 (h a)
abbrev E15 {A C D E F G H I J K L M N O P Q:Type}(f g:A→C→D→E→F→G→H→I→J→K→L→M→N→O→P→Q):Prop:=∀a b c d e h i j k l m n o p q,f a b c d e h i j k l m n o p q=g a b c d e h i j k l m n o p q
theorem x15 {A C D E F G H I J K L M N O P Q:Type}{f g:A→C→D→E→F→G→H→I→J→K→L→M→N→O→P→Q}(h:E15 f g):g=f:=funext fun a=>x14 (h a)
abbrev E16 {A C D E F G H I J K L M N O P Q R:Type}(f g:A→C→D→E→F→G→H→I→J→K→L→M→N→O→P→Q→R):Prop:=∀a b c d e h i j k l m n o p q r,f a b c d e h i j k l m n o p q r=g a b c d e h i j k l m n o p q r
theorem x16 {A C D E F G H I J K L M N O P Q R:Type}{f g:A→C→D→E→F→G→H→I→J→K→L→M→N→O→P→Q→R}(h:E16 f g):g=f:=funext fun a=>x15 (h a)
abbrev aa {α:Type}(_:α):Type:=α
def pN {α:Type}(f:α)(b:Nat→α)(n:Nat):α:=Nat.rec f (fun k _=>b k) n
def wG {α:Type}(f:α)(b:Nat→α→α)(n:Nat):α:=Nat.rec f (fun k x=>b k x) n
theorem fu {α:Type}{f:α}{b:Nat→α}(h:∀w,b w=f):∀w,pN f b w=f
 |0=>rfl
 |w+1=>h w
theorem mkLe {α:Type}{f:α}{b:Nat→α→α}(h:∀w,b w f=f):∀w,wG f b w=f
 |0=>rfl
 |w+1=>by show b w (wG f b w)=f;rw[mkLe h w];exact h w
def fB (m:List (List Int)):Option Bool:=ft T B lf 3 m
def eM (m:List (List Int)):Option Int:=ft T B lf 11 m
def dI (m:List (List Int)):Option Int:=ft T B lf 12 m
def gZ:Option Bool:=ft T B lf 13 ()
def kT (m:List (List Int)):Option (List (List Int)):=ft T B lf 14 m
def eo (m:List (List Int))(i:Int)(out:List (List Int)):Option (List (List Int)):=
 M2 14 0 20 [(4,a9 i),(3,ro 3),(0,rc (.slice zV) m)] [(3,⟨34,zV,out⟩)] [] h0
def eT (m:List (List Int)):Option ((List (List ByteArray))×Int):=ft T B lf 15 m
def bo (g:Nat)(r:Int)(t:Int)(t2:Int)(ah:H0)(ai:H1):Option ((List (List ByteArray))×Int):=
 M1 15 0 74 [(20,a9 t2),(19,a9 t),(6,a9 r),(5,rc (.ref 1) g)] [] (hs ah ai [])
def bZ (g:Nat)(r:Int)(c:Int)(t:Int)(t2:Int)(t3:Int)(t4:Int)(ah:H0)(ai:H1):Option ((List (List ByteArray))×Int):=
 M1 15 1 74 [(41,a9 t4),(40,a9 t3),(20,a9 t2),(19,a9 t),(7,a9 c),(6,a9 r),(5,rc (.ref 1) g)] [] (hs ah ai [])
def fC (m:List (List Int)):Option ((List (List ByteArray))×Int):=ft T B lf 16 m
def kU (a:List (List ByteArray))(b:List (List ByteArray)):Option Bool:=ft T B lf 17 (a,b)
def ep (a:List (List ByteArray))(b:List (List ByteArray))(i:Int):Option Bool:=
 M1 17 0 27 [(5,a9 i),(1,rc (.slice (.slice (.str))) b),(0,rc (.slice (.slice (.str))) a)] [] h0
def kV (a:List (List Int))(b:List (List Int)):Option Bool:=ft T B lf 18 (a,b)
def ew (a:List (List Int))(b:List (List Int))(i:Int):Option Bool:=
 M1 18 0 27 [(5,a9 i),(1,rc (.slice zV) b),(0,rc (.slice zV) a)] [] h0
def oB (m:List (List Int))(b:List Int):Option ((List ByteArray)×Int):=ft T B lf 19 (m,b)
def fW (b:List Int)(s:Nat)(d:List lb)(z:Nat)(t:Nat)(t2:Int)(t3:Int)(ah:H0)(ai:H1)(fm:H2):Option ((List ByteArray)×Int):=
 M1 19 0 104 [(50,a9 t3),(49,a9 t2),(48,rc (.ref 1) t),(9,rc (.ref 0) z),(8,rc (.slice (.st (.pair (.bool) (.pair zU (.unit))))) d),(7,rc (.ptr 2) s),(1,rc zV b)] [] (hs ah ai fm)
def fX (z:Nat)(t:Nat)(t2:Int)(t3:Int)(out:List lb)(ah:H0)(ai:H1)(fm:H2):Option ((List ByteArray)×Int):=
 M2 19 1 104 [(91,a9 t3),(90,a9 t2),(89,rc (.ref 1) t),(15,ro 15),(9,rc (.ref 0) z)] [(15,⟨82, .st (.pair (.bool) (.pair zU (.unit))),out⟩)] [] (hs ah ai fm)
def jR (m:List (List Int)):Option ((List ByteArray)×Int):=ft T B lf 23 m
def eb (a:List ByteArray)(b:List ByteArray):Option Bool:=ft T B lf 25 (a,b)
def cW (a:List ByteArray)(b:List ByteArray)(i:Int):Option Bool:=
 M1 25 0 26 [(5,a9 i),(1,rc (.slice (.str)) b),(0,rc (.slice (.str)) a)] [] h0
def g8 (m:List (List Int)):Option Int:=ft T B lf 27 m
def bM (m:List (List Int))(i:Int):Option Int:=
 M1 27 0 49 [(3,a9 i),(0,rc (.slice zV) m)] [] h0
def bz (m:List (List Int))(i:Int):Option Int:=
 M1 27 1 49 [(4,a9 i),(0,rc (.slice zV) m)] [] h0
def bA (m:List (List Int))(i:Int):Option Int:=
 M1 27 2 49 [(5,a9 i),(0,rc (.slice zV) m)] [] h0
def gT (m:List (List Int)):Option Int:=ft T B lf 33 m
def dc (m:List (List Int))(t:List (List Int))(t2:Int)(t3:Int):Option Int:=
 M1 33 0 46 [(14,a9 t3),(13,a9 t2),(12,rc (.slice zV) t),(0,rc (.slice zV) m)] [] h0
def cG (m:List (List Int))(t:List (List Int))(t2:Int)(t3:Int):Option Int:=
 M1 33 1 46 [(24,a9 t3),(23,a9 t2),(22,rc (.slice zV) t),(0,rc (.slice zV) m)] [] h0
def cH (t:List (List Int))(t2:Int)(t3:Int):Option Int:=
 M1 33 2 46 [(38,a9 t3),(37,a9 t2),(36,rc (.slice zV) t)] [] h0
def kW (a:List Int):Option (List Int):=ft T B lf 36 a
def kX (m:List (List ByteArray))(aG:Int):Option (List (List ByteArray)):=ft T B lf 37 (m,aG)
def cn (m:List (List ByteArray))(aG:Int)(i:Int)(aT:List (Option (List ByteArray))):Option (List (List ByteArray)):=
 M2 37 0 192 [(6,a9 i),(5,ro 5),(1,a9 aG),(0,rc (.slice (.slice (.str))) m)] [(5,⟨35, .mN (.str),aT⟩)] [] h0
def eA (m:List (List ByteArray))(aG:Int)(i:Int)(c:Int)(aT:List (Option (List ByteArray)))(v:List ByteArray):Option (List (List ByteArray)):=
 M2 37 1 192 [(8,a9 c),(7,ro 7),(6,a9 i),(5,ro 5),(1,a9 aG),(0,rc (.slice (.slice (.str))) m)] [(5,⟨35, .mN (.str),aT⟩),(7,⟨52, .str,v⟩)] [] h0
def a7 (m:List (List ByteArray))(aG:Int)(c:Int)(aT:List (Option (List ByteArray)))(out:List (List ByteArray)):Option (List (List ByteArray)):=
 M2 37 2 192 [(19,a9 c),(18,ro 18),(5,ro 5),(1,a9 aG),(0,rc (.slice (.slice (.str))) m)] [(5,⟨35, .mN (.str),aT⟩),(18,⟨35, .slice (.str),out⟩)] [] h0
def dh (m:List (List ByteArray))(aG:Int)(i:Int)(v:List ByteArray)(c:Int)(aT:List (Option (List ByteArray))):Option (List (List ByteArray)):=
 M2 37 1 192 [(8,a9 c),(7,rc (.slice (.str)) v),(6,a9 i),(5,ro 5),(1,a9 aG),(0,rc (.slice (.slice (.str))) m)] [(5,⟨35, .mN (.str),aT⟩)] [] h0
def dt (m:List (List ByteArray))(aG:Int)(c:Int)(i:Int)(aT:List (Option (List ByteArray)))(out:List (List ByteArray)):Option (List (List ByteArray)):=
 M2 37 3 192 [(20,a9 i),(19,a9 c),(18,ro 18),(5,ro 5),(1,a9 aG),(0,rc (.slice (.slice (.str))) m)] [(5,⟨35, .mN (.str),aT⟩),(18,⟨35, .slice (.str),out⟩)] [] h0
def cX (m:List (List ByteArray))(aG:Int)(out:List (List ByteArray)):Option (List (List ByteArray)):=
 M2 37 4 192 [(18,ro 18),(1,a9 aG),(0,rc (.slice (.slice (.str))) m)] [(18,⟨35, .slice (.str),out⟩)] [] h0
def eB (m:List (List ByteArray))(aG:Int)(c:Int)(out:List (List ByteArray))(zero:List ByteArray):Option (List (List ByteArray)):=
 M2 37 5 192 [(24,a9 c),(23,ro 23),(18,ro 18),(1,a9 aG),(0,rc (.slice (.slice (.str))) m)] [(18,⟨35, .slice (.str),out⟩),(23,⟨52, .str,zero⟩)] [] h0
def ic (m:List (List Int)):Option (List (List ByteArray)):=ft T B lf 38 m
def cu (m:List (List Int))(i:Int)(out:List (List ByteArray)):Option (List (List ByteArray)):=
 M2 38 0 38 [(4,a9 i),(3,ro 3),(0,rc (.slice zV) m)] [(3,⟨35, .slice (.str),out⟩)] [] h0
def dj (m:List (List Int))(i:Int)(k:Int)(out:List (List ByteArray))(row:List ByteArray):Option (List (List ByteArray)):=
 M2 38 1 38 [(6,a9 k),(5,ro 5),(4,a9 i),(3,ro 3),(0,rc (.slice zV) m)] [(3,⟨35, .slice (.str),out⟩),(5,⟨52, .str,row⟩)] [] h0
def nM:Option (List (List Int)):=ft T B lf 47 ()
def ld (l:List ByteArray)(e:Int)(want:List ByteArray):Option Bool:=ft T B lf 48 (l,e,want)
def cI (m:List (List Int)):Option Int:=ft T B lf 49 m
def cY (m:List (List Int))(ah:H0)(ai:H1):Option ((Nat)×H0×H1):=ft T B lf 50 (m,(ah,ai))
def dD (g:Nat)(t:List (List Int))(t2:Int)(t3:Int)(ah:H0)(ai:H1):Option ((Nat)×H0×H1):=
 M1 50 0 38 [(13,a9 t3),(12,a9 t2),(11,rc (.slice zV) t),(3,rc (.ref 1) g)] [] (hs ah ai [])
def ed (g:Nat)(i:Int)(t:List (List Int))(t2:Int)(t3:Int)(t4:List Int)(t5:Int)(t6:Int)(ah:H0)(ai:H1):Option ((Nat)×H0×H1):=
 M1 50 1 38 [(20,a9 t6),(19,a9 t5),(18,rc zV t4),(13,a9 t3),(12,a9 t2),(11,rc (.slice zV) t),(4,a9 i),(3,rc (.ref 1) g)] [] (hs ah ai [])
def ar (g:Nat)(ah:H0)(ai:H1):Option ((Int)×H0×H1):=ft T B lf 51 (g,(ah,ai))
def iM (g:Nat)(r:Int)(c:Int)(ah:H0)(ai:H1):Option ((Bool)×H0×H1):=ft T B lf 52 ((g,r,c),(ah,ai))
def b8 (g:Nat)(r:Int)(c:Int)(ah:H0)(ai:H1):Option ((Bool)×H0×H1):=
 M1 52 0 99 [(2,a9 c),(1,a9 r),(0,rc (.ref 1) g)] [] (hs ah ai [])
def br (g:Nat)(r:Int)(c:Int)(WU:Int)(i:Int)(ah:H0)(ai:H1):Option ((Bool)×H0×H1):=
 M1 52 1 99 [(8,a9 i),(7,a9 WU),(2,a9 c),(1,a9 r),(0,rc (.ref 1) g)] [] (hs ah ai [])
def b9 (g:Nat)(r:Int)(c:Int)(done:Bool)(i:Int)(ah:H0)(ai:H1):Option ((Bool)×H0×H1):=
 M1 52 2 99 [(10,a9 i),(9,rc .bool done),(2,a9 c),(1,a9 r),(0,rc (.ref 1) g)] [] (hs ah ai [])
def aj (a:lb):Option Int:=ft T B lf 53 a
def dE (g:Nat)(i:Int)(ah:H0)(ai:H1):Option ((Unit)×H0×H1):=ft T B lf 54 ((g,i),(ah,ai))
def cZ (g:Nat)(i:Int)(t:Nat)(t2:Int)(t3:Int)(ah:H0)(ai:H1):Option ((Unit)×H0×H1):=
 M1 54 0 26 [(11,a9 t3),(10,a9 t2),(9,rc (.ref 0) t),(1,a9 i),(0,rc (.ref 1) g)] [] (hs ah ai [])
def ak (a:lb)(b:lb):Option (lb×lb):=ft T B lf 55 (a,b)
def ca (g:Nat)(i:Int)(j:Int)(k:lb)(ah:H0)(ai:H1):Option ((Unit)×H0×H1):=ft T B lf 56 ((g,i,j,k),(ah,ai))
def c0 (g:Nat)(i:Int)(t:Nat)(t2:Int)(t3:Int)(k:Bool)(k2:List Int)(ah:H0)(ai:H1):Option ((Unit)×H0×H1):=
 M1 56 0 40 [(15,a9 t3),(14,a9 t2),(13,rc (.ref 0) t),bx 7,(1,a9 i),(0,rc (.ref 1) g)] [(7,ce [⟨.bool,k⟩,⟨zU,k2⟩])] (hs ah ai [])
def az (a:lb):Option lb:=ft T B lf 57 a
def kl (g:Nat)(ah:H0)(ai:H1):Option (List (List ByteArray)):=ft T B lf 58 (g,(ah,ai))
def eW (t:Nat)(t2:Int)(t3:Int)(out:List (List ByteArray))(ah:H0)(ai:H1):Option (List (List ByteArray)):=
 M2 58 0 23 [(11,a9 t3),(10,a9 t2),(9,rc (.ref 1) t),(3,ro 3)] [(3,⟨35, .slice (.str),out⟩)] [] [⟨82, .st (.pair (.bool) (.pair zU (.unit))),0,false,ah⟩,⟨84, .ref 0,0,false,ai⟩,⟨97, .st (.pair (.ref 1) (.pair (.ref 1) (.pair (.ref 1) (.unit)))),1,true,([]:H2)⟩]
def kY (a:List Int)(b:List Int):Option Bool:=ft T B lf 59 (a,b)
def eC (a:List Int)(b:List Int)(i:Int):Option Bool:=
 M1 59 0 26 [(5,a9 i),(1,rc zV b),(0,rc zV a)] [] h0
def ky (row:List Int):Option Bool:=ft T B lf 60 row
def fH (t:List Int)(t2:Int)(t3:Int):Option Bool:=
 M1 60 0 18 [(7,a9 t3),(6,a9 t2),(5,rc zV t)] [] h0
def oC (m:List (List Int))(ah:H0)(ai:H1)(fm:H2):Option ((Nat×List lb)×H0×H1×H2):=ft T B lf 61 (m,(ah,ai,fm))
def fY (s:Nat)(t:Int)(t2:Int)(out:List lb)(ah:H0)(ai:H1)(fm:H2):Option ((Nat×List lb)×H0×H1×H2):=
 M2 61 0 85 [(25,a9 t2),(24,a9 t),(6,ro 6),(5,rc (.ptr 2) s)] [(6,⟨82, .st (.pair (.bool) (.pair zU (.unit))),out⟩)] [] (hs ah ai fm)
def fZ (s:Nat)(k:Int)(t:Int)(t2:Int)(out:List lb)(ah:H0)(ai:H1)(fm:H2):Option ((Nat×List lb)×H0×H1×H2):=
 M2 61 1 85 [(25,a9 t2),(24,a9 t),(7,a9 k),(6,ro 6),(5,rc (.ptr 2) s)] [(6,⟨82, .st (.pair (.bool) (.pair zU (.unit))),out⟩)] [] (hs ah ai fm)
def oD (a:Nat)(b:Nat)(ah:H0):Option lb:=ft T B lf 62 ((a,b),ah)
def iN (b:Nat)(t:Nat)(t2:Int)(t3:Int)(t4:Bool)(t5:List Int)(sum:Bool)(WV:List Int)(ah:H0):Option lb:=
 M1 62 0 25 [(10,a9 t3),(9,a9 t2),(8,rc (.ref 0) t),bx 5,bx 4,(1,rc (.ref 0) b)] [(4,ce [⟨.bool,t4⟩,⟨zU,t5⟩]),(5,ce [⟨.bool,sum⟩,⟨zU,WV⟩])] [⟨82, .st (.pair (.bool) (.pair zU (.unit))),0,false,ah⟩,⟨84, .ref 0,0,true,([]:H1)⟩,⟨97, .st (.pair (.ref 1) (.pair (.ref 1) (.pair (.ref 1) (.unit)))),1,true,([]:H2)⟩]
def km (l:List lb):Option (List ByteArray):=ft T B lf 63 l
def gd (t:List lb)(t2:Int)(t3:Int)(out:List ByteArray):Option (List ByteArray):=
 M2 63 0 19 [(8,a9 t3),(7,a9 t2),(6,rc (.slice (.st (.pair (.bool) (.pair zU (.unit))))) t),(3,ro 3)] [(3,⟨52, .str,out⟩)] [] h0
def jS (v:List Int):Option Bool:=ft T B lf 64 v
def dP (v:List Int)(i:Int):Option Bool:=
 M1 64 0 22 [(3,a9 i),(0,rc zV v)] [] h0
def dJ (a:ByteArray)(b:ByteArray):Option ByteArray:=ft T B lf 66 (a,b)
def bN (p:Bool)(x:List Int)(q:Bool)(y:List Int)(i:Int)(out:List Int):Option ByteArray:=
 M2 66 0 120 [(14,a9 i),(13,ro 13),(12,rc zV y),(11,rc .bool q),(10,rc zV x),(9,rc .bool p)] [(13,⟨3,zI,out⟩)] [] h0
def dQ (p:Bool)(x:List Int)(q:Bool)(y:List Int)(i:Int)(k:Int)(out:List Int):Option ByteArray:=
 M2 66 1 120 [(15,a9 k),(14,a9 i),(13,ro 13),(12,rc zV y),(11,rc .bool q),(10,rc zV x),(9,rc .bool p)] [(13,⟨3,zI,out⟩)] [] h0
def di (p:Bool)(q:Bool)(i:Int)(out:List Int):Option ByteArray:=
 M2 66 2 120 [(16,a9 i),(13,ro 13),(11,rc .bool q),(9,rc .bool p)] [(13,⟨3,zI,out⟩)] [] h0
def ef (a:ByteArray)(b:ByteArray):Option ByteArray:=ft T B lf 68 (a,b)
def cf (n:Int):Option ByteArray:=ft T B lf 69 n
def du (q:Int)(d:List Int):Option ByteArray:=
 M2 69 0 42 [(5,ro 5),(3,a9 q)] [(5,⟨3,zI,d⟩)] [] h0
def dw (n:Int)(d:List Int):Option ByteArray:=
 M2 69 1 42 [(6,ro 6),(0,a9 n)] [(6,⟨3,zI,d⟩)] [] h0
def oE (g:Nat)(ah:H0)(ai:H1):Option ((List lb)×H0×H1):=ft T B lf 70 (g,(ah,ai))
def gf (g:Nat)(own:Nat)(t:Nat)(t2:Int)(t3:Int)(ah:H0)(ai:H1):Option ((List lb)×H0×H1):=
 M1 70 0 125 [(21,a9 t3),(20,a9 t2),(19,rc (.ref 1) t),(3,rc (.ref 1) own),(0,rc (.ref 1) g)] [] (hs ah ai [])
def gh (g:Nat)(gH:Int)(t:Int)(t2:Int)(m:Bool)(m2:List Int)(ah:H0)(ai:H1):Option ((List lb)×H0×H1):=
 M1 70 1 125 [(42,a9 t2),(41,a9 t),bx 7,(6,a9 gH),(0,rc (.ref 1) g)] [(7,ce [⟨.bool,m⟩,⟨zU,m2⟩])] (hs ah ai [])
def gi (g:Nat)(gH:Int)(t:Int)(t2:Int)(out:List lb)(m:Bool)(m2:List Int)(ah:H0)(ai:H1):Option ((List lb)×H0×H1):=
 M2 70 2 125 [(57,a9 t2),(56,a9 t),(9,ro 9),bx 7,(6,a9 gH),(0,rc (.ref 1) g)] [(9,⟨82, .st (.pair (.bool) (.pair zU (.unit))),out⟩)] [(7,ce [⟨.bool,m⟩,⟨zU,m2⟩])] (hs ah ai [])
def gj (gH:Int)(t:Int)(t2:Int)(out:List lb)(ah:H0)(ai:H1):Option ((List lb)×H0×H1):=
 M2 70 3 125 [(79,a9 t2),(78,a9 t),(9,ro 9),(6,a9 gH)] [(9,⟨82, .st (.pair (.bool) (.pair zU (.unit))),out⟩)] [] (hs ah ai [])
def gl (gH:Int)(i:Int)(j:Int)(t:Int)(t2:Int)(out:List lb)(ah:H0)(ai:H1):Option ((List lb)×H0×H1):=
 M2 70 4 125 [(79,a9 t2),(78,a9 t),(12,a9 j),(11,a9 i),(9,ro 9),(6,a9 gH)] [(9,⟨82, .st (.pair (.bool) (.pair zU (.unit))),out⟩)] [] (hs ah ai [])
def tb (g:Nat)(ah:H0)(ai:H1):Option ((Int×lb)×H0×H1):=ft T B lf 72 (g,(ah,ai))
def iO (g:Nat)(gH:Int)(neg:Bool)(minor:Bool)(l0:List Int)(ah:H0)(ai:H1):Option ((Int×lb)×H0×H1):=
 M1 72 0 73 [(4,rc .bool neg),bx 3,(2,a9 gH),(0,rc (.ref 1) g)] [(3,ce [⟨.bool,minor⟩,⟨zU,l0⟩])] (hs ah ai [])
def iP (g:Nat)(gH:Int)(neg:Bool)(i:Int)(minor:Bool)(l0:List Int)(ah:H0)(ai:H1):Option ((Int×lb)×H0×H1):=
 M1 72 1 73 [(5,a9 i),(4,rc .bool neg),bx 3,(2,a9 gH),(0,rc (.ref 1) g)] [(3,ce [⟨.bool,minor⟩,⟨zU,l0⟩])] (hs ah ai [])
def iQ (g:Nat)(gH:Int)(neg:Bool)(i:Int)(c:Int)(minor:Bool)(l0:List Int)(ah:H0)(ai:H1):Option ((Int×lb)×H0×H1):=
 M1 72 2 73 [(6,a9 c),(5,a9 i),(4,rc .bool neg),bx 3,(2,a9 gH),(0,rc (.ref 1) g)] [(3,ce [⟨.bool,minor⟩,⟨zU,l0⟩])] (hs ah ai [])
def eX (a:lb):Option ByteArray:=ft T B lf 74 a
def cO (t:List Int)(t2:Int)(t3:Int)(out:List Int)(a:Bool)(a2:List Int):Option ByteArray:=
 M2 74 0 81 [(21,a9 t3),(20,a9 t2),(19,rc zU t),(3,ro 3),bx 1] [(3,⟨5, .int .u8,out⟩)] [(1,ce [⟨.bool,a⟩,⟨zU,a2⟩])] h0
def dm (x:Int)(t:List Int)(t2:Int)(t3:Int)(t4:Int)(out:List Int)(a:Bool)(a2:List Int):Option ByteArray:=
 M2 74 1 81 [(25,a9 t4),(21,a9 t3),(20,a9 t2),(19,rc zU t),(5,rc (.int .u32) x),(3,ro 3),bx 1] [(3,⟨5, .int .u8,out⟩)] [(1,ce [⟨.bool,a⟩,⟨zU,a2⟩])] h0
def cP (out:List Int)(a:Bool)(a2:List Int):Option ByteArray:=
 M2 74 2 81 [(3,ro 3),bx 1] [(3,⟨5, .int .u8,out⟩)] [(1,ce [⟨.bool,a⟩,⟨zU,a2⟩])] h0
def cQ (i:Int)(j:Int)(out:List Int):Option ByteArray:=
 M2 74 3 81 [(7,a9 j),(6,a9 i),(3,ro 3)] [(3,⟨5, .int .u8,out⟩)] [] h0
def eU (a:lb)(b:lb):Option Int:=ft T B lf 77 (a,b)
def bD (a:ByteArray)(b:ByteArray):Option Int:=ft T B lf 78 (a,b)
def eY (k:ByteArray)(a:List ByteArray)(l:ByteArray)(b:List ByteArray):Option (List ByteArray):=ft T B lf 79 (k,a,l,b)
def eZ (k:ByteArray)(a:List ByteArray)(l:ByteArray)(b:List ByteArray)(i:Int)(out:List ByteArray):Option (List ByteArray):=
 M2 79 0 34 [(10,a9 i),(9,ro 9),(3,rc (.slice (.str)) b),(2,rc .str l),(1,rc (.slice (.str)) a),(0,rc .str k)] [(9,⟨52, .str,out⟩)] [] h0
def dR (a:ByteArray)(b:ByteArray):Option (ByteArray×ByteArray×ByteArray):=ft T B lf 80 (a,b)
def ax (r:ByteArray)(s:ByteArray)(x:ByteArray)(y:ByteArray)(u:ByteArray)(v:ByteArray):Option (ByteArray×ByteArray×ByteArray):=
 M1 80 0 51 [(12,rc .str v),(11,rc .str u),(10,rc .str y),(9,rc .str x),(8,rc .str s),(7,rc .str r)] [] h0
def aR (a:ByteArray)(b:ByteArray):Option (ByteArray×ByteArray):=ft T B lf 81 (a,b)
def bB (b:ByteArray)(p:Bool)(x:List Int)(s:Bool)(y:List Int)(r:List Int)(i:Int)(q:List Int):Option (ByteArray×ByteArray):=
 M2 81 0 164 [(19,a9 i),(18,rc zV r),(17,ro 17),(15,rc zV y),(14,rc .bool s),(13,rc zV x),(12,rc .bool p),(1,rc .str b)] [(17,⟨3,zI,q⟩)] [] h0
def c5 (b:ByteArray)(p:Bool)(x:List Int)(s:Bool)(y:List Int)(r:List Int)(i:Int)(k:Int)(q:List Int):Option (ByteArray×ByteArray):=
 M2 81 1 164 [(20,a9 k),(19,a9 i),(18,rc zV r),(17,ro 17),(15,rc zV y),(14,rc .bool s),(13,rc zV x),(12,rc .bool p),(1,rc .str b)] [(17,⟨3,zI,q⟩)] [] h0
def aQ (b:ByteArray)(p:Bool)(s:Bool)(r:List Int)(i:Int)(q:List Int):Option (ByteArray×ByteArray):=
 M2 81 2 164 [(21,a9 i),(18,rc zV r),(17,ro 17),(14,rc .bool s),(12,rc .bool p),(1,rc .str b)] [(17,⟨3,zI,q⟩)] [] h0
def aH (a:ByteArray):Option ByteArray:=ft T B lf 82 a
def l3 (n:Int):Option lb:=ft T B lf 84 n
def mS (u:Int)(neg:Bool)(d:List Int)(t:Bool)(t2:List Int):Option lb:=
 M2 84 0 26 [(5,ro 5),(4,rc .bool neg),(3,rc (.int .u64) u),bx 2] [(5,⟨142, .int .u32,d⟩)] [(2,ce [⟨.bool,t⟩,⟨zU,t2⟩])] h0
def dg (a:lb):Option lb:=ft T B lf 85 a
def cp (a:lb)(b:lb):Option lb:=ft T B lf 86 (a,b)
def cJ (t:List Int)(t2:Int)(t3:Int)(out:List Int)(a:Bool)(a2:List Int)(b:Bool)(b2:List Int)(t4:Bool)(t5:List Int):Option lb:=
 M2 86 0 78 [(22,a9 t3),(21,a9 t2),(20,rc zU t),(5,ro 5),bx 4,bx 3,bx 2] [(5,⟨142, .int .u32,out⟩)] [(2,ce [⟨.bool,a⟩,⟨zU,a2⟩]),(3,ce [⟨.bool,b⟩,⟨zU,b2⟩]),(4,ce [⟨.bool,t4⟩,⟨zU,t5⟩])] h0
def dK (i:Int)(x:Int)(carry:Int)(t:List Int)(t2:Int)(t3:Int)(t4:List Int)(t5:Int)(t6:Int)(out:List Int)(a:Bool)(a2:List Int)(b:Bool)(b2:List Int)(t7:Bool)(t8:List Int):Option lb:=
 M2 86 1 78 [(30,a9 t6),(29,a9 t5),(28,rc zU t4),(22,a9 t3),(21,a9 t2),(20,rc zU t),(8,rc (.int .u64) carry),(7,rc (.int .u32) x),(6,a9 i),(5,ro 5),bx 4,bx 3,bx 2] [(5,⟨142, .int .u32,out⟩)] [(2,ce [⟨.bool,a⟩,⟨zU,a2⟩]),(3,ce [⟨.bool,b⟩,⟨zU,b2⟩]),(4,ce [⟨.bool,t7⟩,⟨zU,t8⟩])] h0
def aL (g:Nat)(i:Int)(j:Int)(ah:H0)(ai:H1):Option ((Unit)×H0×H1):=ft T B lf 87 ((g,i,j),(ah,ai))
def mT (a:List Int)(b:List Int):Option ((List Int)×List Int):=ft T B lf 88 (a,b)
def eD (neg:Bool)(d:List Int):Option lb:=ft T B lf 89 (neg,d)
def dZ (a:lb)(b:lb):Option lb:=ft T B lf 90 (a,b)
def bp (a:lb)(b:lb):Option lb:=ft T B lf 91 (a,b)
def wH (n:Int)(ah:H0)(ai:H1):Option ((Nat)×H0×H1):=ft T B lf 92 (n,(ah,ai))
def kn (n:Int)(g:Nat)(t:Int)(t2:Int)(ah:H0)(ai:H1):Option ((Nat)×H0×H1):=
 M1 92 0 25 [(8,a9 t2),(7,a9 t),(3,rc (.ref 1) g),(0,a9 n)] [] (hs ah ai [])
def gz (s:Nat)(k:Int)(ah:H0)(ai:H1)(fm:H2):Option ((Bool)×H0×H1×H2):=ft T B lf 93 ((s,k),(ah,ai,fm))
def cS (s:Nat)(k:Int)(row:Int)(column:Int)(i:Int)(ah:H0)(ai:H1)(fm:H2):Option ((Bool)×H0×H1×H2):=
 M1 93 0 96 [(7,a9 i),(6,a9 column),(5,a9 row),(1,a9 k),(0,rc (.ptr 2) s)] [] (hs ah ai fm)
def cU (s:Nat)(k:Int)(row:Int)(column:Int)(i:Int)(c:Int)(ah:H0)(ai:H1)(fm:H2):Option ((Bool)×H0×H1×H2):=
 M1 93 1 96 [(8,a9 c),(7,a9 i),(6,a9 column),(5,a9 row),(1,a9 k),(0,rc (.ptr 2) s)] [] (hs ah ai fm)
def fD (s:Nat)(k:Int)(ah:H0)(ai:H1)(fm:H2):Option ((Bool)×H0×H1×H2):=ft T B lf 94 ((s,k),(ah,ai,fm))
def cw (s:Nat)(k:Int)(done:Bool)(i:Int)(ah:H0)(ai:H1)(fm:H2):Option ((Bool)×H0×H1×H2):=
 M1 94 0 123 [(6,a9 i),(5,rc .bool done),(1,a9 k),(0,rc (.ptr 2) s)] [] (hs ah ai fm)
def cy (s:Nat)(k:Int)(done:Bool)(c:Int)(ah:H0)(ai:H1)(fm:H2):Option ((Bool)×H0×H1×H2):=
 M1 94 1 123 [(9,a9 c),(5,rc .bool done),(1,a9 k),(0,rc (.ptr 2) s)] [] (hs ah ai fm)
def eN (s:Nat)(k:Int)(ah:H0)(ai:H1)(fm:H2):Option ((Int)×H0×H1×H2):=ft T B lf 95 ((s,k),(ah,ai,fm))
def bJ (s:Nat)(k:Int)(row:Int)(i:Int)(ah:H0)(ai:H1)(fm:H2):Option ((Int)×H0×H1×H2):=
 M1 95 0 61 [(6,a9 i),(5,a9 row),(1,a9 k),(0,rc (.ptr 2) s)] [] (hs ah ai fm)
def bK (s:Nat)(k:Int)(row:Int)(i:Int)(c:Int)(ah:H0)(ai:H1)(fm:H2):Option ((Int)×H0×H1×H2):=
 M1 95 1 61 [(7,a9 c),(6,a9 i),(5,a9 row),(1,a9 k),(0,rc (.ptr 2) s)] [] (hs ah ai fm)
def dx (s:Nat)(i:Int)(j:Int)(k:lb)(ah:H0)(ai:H1)(fm:H2):Option ((Unit)×H0×H1×H2):=ft T B lf 96 ((s,i,j,k),(ah,ai,fm))
def dL (a:ByteArray):Option (Int×Bool):=ft T B lf 98 a
def dS (a:ByteArray)(n:Int)(i:Int):Option (Int×Bool):=
 M1 98 0 38 [(5,a9 i),(4,a9 n),(0,rc .str a)] [] h0
def ay (a:ByteArray):Option (Bool×List Int):=ft T B lf 99 a
def dy (a:ByteArray)(minus:Bool)(i:Int)(d:List Int):Option (Bool×List Int):=
 M2 99 0 37 [(6,a9 i),(5,ro 5),(4,rc .bool minus),(0,rc .str a)] [(5,⟨3,zI,d⟩)] [] h0
def aw (minus:Bool)(d:List Int):Option ByteArray:=ft T B lf 100 (minus,d)
def eE (d:List Int)(i:Int)(out:List Int):Option ByteArray:=
 M2 100 0 34 [(6,a9 i),(5,ro 5),(1,rc zV d)] [(5,⟨5, .int .u8,out⟩)] [] h0
def ie (a:List Int)(b:List Int):Option (List Int):=ft T B lf 103 (a,b)
def fa (a:List Int)(b:List Int)(carry:Int)(i:Int)(out:List Int):Option (List Int):=
 M2 103 0 54 [(7,a9 i),(6,a9 carry),(5,ro 5),(1,rc zV b),(0,rc zV a)] [(5,⟨3,zI,out⟩)] [] h0
def dF (a:List Int)(b:List Int):Option Int:=ft T B lf 104 (a,b)
def eF (a:List Int)(b:List Int)(i:Int):Option Int:=
 M1 104 0 41 [(5,a9 i),(1,rc zV b),(0,rc zV a)] [] h0
def bq (a:List Int)(b:List Int):Option (List Int):=ft T B lf 105 (a,b)
def cq (a:List Int)(b:List Int)(borrow:Int)(i:Int)(out:List Int):Option (List Int):=
 M2 105 0 41 [(7,a9 i),(6,a9 borrow),(5,ro 5),(1,rc zV b),(0,rc zV a)] [(5,⟨3,zI,out⟩)] [] h0
def ko (row:Nat)(m:lb)(ah:H0):Option ((Unit)×H0):=ft T B lf 106 ((row,m),ah)
def gn (row:Nat)(t:Nat)(t2:Int)(t3:Int)(m:Bool)(m2:List Int)(ah:H0):Option ((Unit)×H0):=
 M1 106 0 23 [(8,a9 t3),(7,a9 t2),(6,rc (.ref 0) t),bx 3,(0,rc (.ref 0) row)] [(3,ce [⟨.bool,m⟩,⟨zU,m2⟩])] (s0 ah)
def tc (g:Nat)(k:Int)(m:lb)(ah:H0)(ai:H1):Option ((Unit)×H0×H1):=ft T B lf 107 ((g,k,m),(ah,ai))
def iR (g:Nat)(k:Int)(again:Bool)(m:Bool)(m2:List Int)(ah:H0)(ai:H1):Option ((Unit)×H0×H1):=
 M1 107 0 157 [(6,rc .bool again),bx 5,(1,a9 k),(0,rc (.ref 1) g)] [(5,ce [⟨.bool,m⟩,⟨zU,m2⟩])] (hs ah ai [])
def iS (g:Nat)(k:Int)(again:Bool)(i:Int)(m:Bool)(m2:List Int)(ah:H0)(ai:H1):Option ((Unit)×H0×H1):=
 M1 107 1 157 [(7,a9 i),(6,rc .bool again),bx 5,(1,a9 k),(0,rc (.ref 1) g)] [(5,ce [⟨.bool,m⟩,⟨zU,m2⟩])] (hs ah ai [])
def iT (g:Nat)(k:Int)(again:Bool)(i:Int)(m:Bool)(m2:List Int)(ah:H0)(ai:H1):Option ((Unit)×H0×H1):=
 M1 107 2 157 [(7,a9 i),(6,rc .bool again),bx 5,(1,a9 k),(0,rc (.ref 1) g)] [(5,ce [⟨.bool,m⟩,⟨zU,m2⟩])] (hs ah ai [])
def iU (g:Nat)(k:Int)(again:Bool)(c:Int)(m:Bool)(m2:List Int)(ah:H0)(ai:H1):Option ((Unit)×H0×H1):=
 M1 107 3 157 [(10,a9 c),(6,rc .bool again),bx 5,(1,a9 k),(0,rc (.ref 1) g)] [(5,ce [⟨.bool,m⟩,⟨zU,m2⟩])] (hs ah ai [])
def iV (g:Nat)(k:Int)(again:Bool)(c:Int)(m:Bool)(m2:List Int)(ah:H0)(ai:H1):Option ((Unit)×H0×H1):=
 M1 107 4 157 [(10,a9 c),(6,rc .bool again),bx 5,(1,a9 k),(0,rc (.ref 1) g)] [(5,ce [⟨.bool,m⟩,⟨zU,m2⟩])] (hs ah ai [])
def iW (g:Nat)(k:Int)(again:Bool)(c:Int)(t:Int)(t2:Int)(m:Bool)(m2:List Int)(ah:H0)(ai:H1):Option ((Unit)×H0×H1):=
 M1 107 5 157 [(122,a9 t2),(121,a9 t),(10,a9 c),(6,rc .bool again),bx 5,(1,a9 k),(0,rc (.ref 1) g)] [(5,ce [⟨.bool,m⟩,⟨zU,m2⟩])] (hs ah ai [])
def gU (a:lb)(b:lb):Option lb:=ft T B lf 108 (a,b)
def eO (x:List Int)(y:List Int)(t:Bool)(t2:List Int):Option lb:=
 M1 108 0 41 [(6,rc zU y),(5,rc zU x),bx 4] [(4,ce [⟨.bool,t⟩,⟨zU,t2⟩])] h0
def aW (g:Nat)(i:Int)(j:Int)(ah:H0)(ai:H1):Option ((Unit)×H0×H1):=ft T B lf 109 ((g,i,j),(ah,ai))
def bL (i:Int)(j:Int)(t:Nat)(t2:Int)(t3:Int)(ah:H0)(ai:H1):Option ((Unit)×H0×H1):=
 M1 109 0 29 [(10,a9 t3),(9,a9 t2),(8,rc (.ref 1) t),(2,a9 j),(1,a9 i)] [] (hs ah ai [])
def wI (g:Nat)(k:Int)(before:lb)(ah:H0)(ai:H1):Option ((Unit)×H0×H1):=ft T B lf 110 ((g,k,before),(ah,ai))
def kp (g:Nat)(k:Int)(i:Int)(before:Bool)(sW:List Int)(ah:H0)(ai:H1):Option ((Unit)×H0×H1):=
 M1 110 0 68 [(6,a9 i),bx 5,(1,a9 k),(0,rc (.ref 1) g)] [(5,ce [⟨.bool,before⟩,⟨zU,sW⟩])] (hs ah ai [])
def kq (g:Nat)(k:Int)(i:Int)(c:Int)(before:Bool)(sW:List Int)(ah:H0)(ai:H1):Option ((Unit)×H0×H1):=
 M1 110 1 68 [(7,a9 c),(6,a9 i),bx 5,(1,a9 k),(0,rc (.ref 1) g)] [(5,ce [⟨.bool,before⟩,⟨zU,sW⟩])] (hs ah ai [])
def l4 (a:List Int)(b:List Int):Option Int:=ft T B lf 112 (a,b)
def iX (a:List Int)(b:List Int)(i:Int):Option Int:=
 M1 112 0 41 [(5,a9 i),(1,rc zU b),(0,rc zU a)] [] h0
def dM (a:ByteArray)(b:ByteArray):Option ByteArray:=ft T B lf 113 (a,b)
def bt (d:List Int):Option (List Int):=ft T B lf 114 d
def eG (d:List Int):Option (List Int):=
 M1 114 0 21 [(0,rc zV d)] [] h0
def mU (a:List Int)(b:Int):Option ((List Int)×Int):=ft T B lf 116 (a,b)
def gN (a:List Int)(b:Int)(rest:Int)(i:Int)(out:List Int):Option ((List Int)×Int):=
 M2 116 0 42 [(8,a9 i),(7,rc (.int .u64) rest),(6,ro 6),(1,rc (.int .u32) b),(0,rc zU a)] [(6,⟨142, .int .u32,out⟩)] [] h0
def jT (d:List Int):Option (List Int):=ft T B lf 117 d
def iY (d:List Int):Option (List Int):=
 M1 117 0 21 [(0,rc zU d)] [] h0
def tD (a:List Int)(b:List Int):Option ((List Int)×List Int):=ft T B lf 118 (a,b)
def dz (k:Int)(v:List Int)(n:Int)(j:Int)(q:List Int)(u:List Int):Option ((List Int)×List Int):=
 M2 118 0 239 [(10,a9 j),(9,a9 n),(8,rc zU v),(7,ro 7),(6,rc (.int .u32) k),(4,ro 4)] [(4,⟨142, .int .u32,q⟩),(7,⟨142, .int .u32,u⟩)] [] h0
def gp (k:Int)(v:List Int)(n:Int)(j:Int)(guess:Int)(rest:Int)(q:List Int)(u:List Int):Option ((List Int)×List Int):=
 M2 118 1 239 [(13,rc (.int .u64) rest),(12,rc (.int .u64) guess),(10,a9 j),(9,a9 n),(8,rc zU v),(7,ro 7),(6,rc (.int .u32) k),(4,ro 4)] [(4,⟨142, .int .u32,q⟩),(7,⟨142, .int .u32,u⟩)] [] h0
def eP (k:Int)(v:List Int)(n:Int)(j:Int)(guess:Int)(borrow:Int)(t:Int)(t2:Int)(q:List Int)(u:List Int):Option ((List Int)×List Int):=
 M2 118 2 239 [(124,a9 t2),(123,a9 t),(14,a9 borrow),(12,rc (.int .u64) guess),(10,a9 j),(9,a9 n),(8,rc zU v),(7,ro 7),(6,rc (.int .u32) k),(4,ro 4)] [(4,⟨142, .int .u32,q⟩),(7,⟨142, .int .u32,u⟩)] [] h0
def gV (k:Int)(v:List Int)(n:Int)(j:Int)(guess:Int)(x:Int)(carry:Int)(t:Int)(t2:Int)(q:List Int)(u:List Int):Option ((List Int)×List Int):=
 M2 118 3 239 [(189,a9 t2),(188,a9 t),(18,rc (.int .u32) carry),(17,a9 x),(12,rc (.int .u64) guess),(10,a9 j),(9,a9 n),(8,rc zU v),(7,ro 7),(6,rc (.int .u32) k),(4,ro 4)] [(4,⟨142, .int .u32,q⟩),(7,⟨142, .int .u32,u⟩)] [] h0
def tE (a:List Int)(b:List Int):Option (List Int):=ft T B lf 119 (a,b)
def iZ (b:List Int)(carry:Int)(t:List Int)(t2:Int)(t3:Int)(out:List Int):Option (List Int):=
 M2 119 0 52 [(22,a9 t3),(21,a9 t2),(20,rc zU t),(6,rc (.int .u32) carry),(5,ro 5),(1,rc zU b)] [(5,⟨142, .int .u32,out⟩)] [] h0
def qG (a:List Int)(b:List Int):Option (List Int):=ft T B lf 120 (a,b)
def gO (b:List Int)(borrow:Int)(t:List Int)(t2:Int)(t3:Int)(out:List Int):Option (List Int):=
 M2 120 0 44 [(15,a9 t3),(14,a9 t2),(13,rc zU t),(6,rc (.int .u32) borrow),(5,ro 5),(1,rc zU b)] [(5,⟨142, .int .u32,out⟩)] [] h0
def dV (s:Nat)(i:Int)(j:Int)(k:lb)(ah:H0)(ai:H1)(fm:H2):Option ((Unit)×H0×H1×H2):=ft T B lf 121 ((s,i,j,k),(ah,ai,fm))
def ja (a:ByteArray):Option Int:=ft T B lf 124 a
def td (g:Nat)(k:Int)(ah:H0)(ai:H1):Option ((Bool)×H0×H1):=ft T B lf 125 ((g,k),(ah,ai))
def jb (g:Nat)(k:Int)(i:Int)(ah:H0)(ai:H1):Option ((Bool)×H0×H1):=
 M1 125 0 38 [(5,a9 i),(1,a9 k),(0,rc (.ref 1) g)] [] (hs ah ai [])
def jc (g:Nat)(k:Int)(i:Int)(c:Int)(ah:H0)(ai:H1):Option ((Bool)×H0×H1):=
 M1 125 1 38 [(6,a9 c),(5,a9 i),(1,a9 k),(0,rc (.ref 1) g)] [] (hs ah ai [])
def dA (g:Nat)(i:Int)(j:Int)(k:lb)(ah:H0)(ai:H1):Option ((Unit)×H0×H1):=ft T B lf 126 ((g,i,j,k),(ah,ai))
def cz (i:Int)(j:Int)(t:Nat)(t2:Int)(t3:Int)(k:Bool)(k2:List Int)(ah:H0)(ai:H1):Option ((Unit)×H0×H1):=
 M1 126 0 33 [(12,a9 t3),(11,a9 t2),(10,rc (.ref 1) t),bx 7,(2,a9 j),(1,a9 i)] [(7,ce [⟨.bool,k⟩,⟨zU,k2⟩])] (hs ah ai [])
def te (x:Int)(y:Int):Option Int:=ft T B lf 127 (x,y)
def jd (x:Int)(y:Int):Option Int:=
 M1 127 0 12 [(1,a9 y),(0,a9 x)] [] h0
def wJ (d:List Int):Option Int:=ft T B lf 128 d
def kr (d:List Int)(n:Int)(i:Int):Option Int:=
 M1 128 0 21 [(4,a9 i),(3,a9 n),(0,rc zU d)] [] h0
def oa (a:List Int)(k:Int):Option (List Int):=ft T B lf 130 (a,k)
def fI (k:Int)(carry:Int)(t:List Int)(t2:Int)(t3:Int)(out:List Int):Option (List Int):=
 M2 130 0 40 [(15,a9 t3),(14,a9 t2),(13,rc zU t),(6,rc (.int .u64) carry),(5,ro 5),(1,rc (.int .u32) k)] [(5,⟨142, .int .u32,out⟩)] [] h0
def ig (l:Nat)(ah:H0):Option (List ByteArray):=ft T B lf 100063 (l,ah)
def dn (t:Nat)(t2:Int)(t3:Int)(out:List ByteArray)(ah:H0):Option (List ByteArray):=
 M2 100063 0 19 [(8,a9 t3),(7,a9 t2),(6,rc (.ref 0) t),(3,ro 3)] [(3,⟨52, .str,out⟩)] [] [⟨82, .st (.pair (.bool) (.pair zU (.unit))),0,false,ah⟩,⟨84, .ref 0,0,true,([]:H1)⟩,⟨97, .st (.pair (.ref 1) (.pair (.ref 1) (.pair (.ref 1) (.unit)))),1,true,([]:H2)⟩]
end
noncomputable section
def lG (lH:aa ed):aa dD:=fun g t t2 t3 ah ai=>
 bif (decide (t3<t2)) then
  (idx t t3).bind fun v0=>
  lH g t3 t t2 t3 v0 (v0.length:Int) 0 ah ai
 else
  some (g,(ah,ai))
theorem ob:E6 dD (lG ed):=fun _ _ _ _ _ _=>l1 50 0
def lI (lH:aa ed)(pd:aa dD)(l5:aa l3):aa ed:=fun g i t t2 t3 t4 t5 t6 ah ai=>
 bif (decide (t6<t5)) then
  (idx t4 t6).bind fun v0=>
  (ae ai g).bind fun v1=>
  (idx v1 i).bind fun _=>
  (ae ai g).bind fun v2=>
  (v2[i.toNat]?).bind fun v3=>
  (l5 v0).bind fun r4=>
  let e5:H0:=(ah++[some ([(r4.1,(r4.2.1,()))]:List lb)])
  (ae e5 v3).bind fun v6=>
  (ae e5 (ah.length+1:Nat)).bind fun v7=>
  bif (bj 32 2 v6.length v7.length) then
  bif v7.isEmpty then
   (ae ai g).bind fun v8=>
   (idx v8 i).bind fun _=>
   (ae ai g).bind fun v9=>
   (v9[i.toNat]?).bind fun v10=>
   lH g i t t2 t3 t4 t5 (IntKind.wrap .i64 (t6+1)) e5 (gF ai g (v9.set i.toNat v3))
  else
   (ae ai g).bind fun v11=>
   (idx v11 i).bind fun _=>
   (ae ai g).bind fun vG=>
   (vG[i.toNat]?).bind fun wK=>
   let UT:H1:=(gF ai g (vG.set i.toNat ((jB e5 v3).length+1:Nat)))
   lH g i t t2 t3 t4 t5 (IntKind.wrap .i64 (t6+1)) ((jB e5 v3)++[some (v6++v7)]) UT
  else none
 else
  pd g t t2 (IntKind.wrap .i64 (t3+1)) ah ai
theorem oc:ZB ed (lI ed dD l3):=fun _ _ _ _ _ _ _ _ _ _=>l1 50 1
def tF (pd:aa dD):aa cY:=fun m ah ai=>
 bif (fP 24 (m.length:Int) (m.length:Int)) then
 let e0:H1:=(ai++[some (List.replicate (m.length:Int).toNat (0:Nat))])
 pd (ai.length+1:Nat) m (m.length:Int) 0 ah e0
 else none
theorem yF:E3 cY (tF dD):=fun _ _ _=>e1 50
def sd:aa ar:=fun g ah ai=>
 (ae ai g).bind fun v0=>
 bif ((v0.length:Int)==0) then
  some (0,(ah,ai))
 else
  (ae ai g).bind fun v1=>
  (idx v1 0).bind fun _=>
  (ae ai g).bind fun v2=>
  (v2[(0:Int).toNat]?).bind fun v3=>
  (ae ah v3).bind fun v4=>
  some ((v4.length:Int),(ah,ai))
theorem wL:E3 ar sd:=fun _ _ _=>e1 51
def qH:aa aj:=fun a=>
 bif ((a.2.1.length:Int)==0) then
  some 0
 else
  bif a.1 then
   some (-1)
  else
   some 1
theorem uZ:E1 aj qH:=fun _=>e1 53
def je (l6:aa cZ)(aA:aa az):aa cZ:=fun g i t t2 t3 ah ai=>
 bif (decide (t3<t2)) then
  (ae ah t).bind fun v0=>
  (idx v0 t3).bind fun _=>
  (ae ah t).bind fun v1=>
  (v1[t3.toNat]?).bind fun v2=>
  (ae ai g).bind fun v3=>
  (idx v3 i).bind fun _=>
  (ae ai g).bind fun v4=>
  (v4[i.toNat]?).bind fun v5=>
  (aA (v2.1,(v2.2.1,()))).bind fun r6=>
  (ae ah v5).bind fun v7=>
  (idx v7 t3).bind fun _=>
  (ae ah v5).bind fun v8=>
  (v8[t3.toNat]?).bind fun v9=>
  let PK:H0:=(gF ah v5 (v8.set t3.toNat (r6.1,(r6.2.1,()))))
  l6 g i t t2 (IntKind.wrap .i64 (t3+1)) PK ai
 else
  some ((),(ah,ai))
theorem lg:E7 cZ (je cZ az):=fun _ _ _ _ _ _ _=>l1 54 0
def pe (l6:aa cZ):aa dE:=fun g i ah ai=>
 (ae ai g).bind fun v0=>
 (idx v0 i).bind fun _=>
 (ae ai g).bind fun v1=>
 (v1[i.toNat]?).bind fun v2=>
 (ae ah v2).bind fun v3=>
 l6 g i v2 (v3.length:Int) 0 ah ai
theorem tG:E4 dE (pe cZ):=fun _ _ _ _=>e1 54
def od (u5:aa mT)(fJ:aa eD)(ag:aa aj)(l5:aa l3)(se:aa dZ)(eg:aa bp):aa ak:=fun a b=>
 (u5 a.2.1 b.2.1).bind fun r0=>
 (fJ (!(a.1==b.1)) r0.1).bind fun r1=>
 (fJ a.1 r0.2).bind fun r2=>
 (ag (r2.1,(r2.2.1,()))).bind fun r3=>
 bif (r3 != 0) then
  bif (!(a.1==b.1)) then
   (l5 1).bind fun r4=>
   (se (r1.1,(r1.2.1,())) (r4.1,(r4.2.1,()))).bind fun r5=>
   (eg (r2.1,(r2.2.1,())) (b.1,(b.2.1,()))).bind fun r6=>
   some ((r5.1,(r5.2.1,())),(r6.1,(r6.2.1,())))
  else
   some ((r1.1,(r1.2.1,())),(r2.1,(r2.2.1,())))
 else
  some ((r1.1,(r1.2.1,())),(r2.1,(r2.2.1,())))
theorem sF:E2 ak (od mT eD aj l3 dZ bp):=fun _ _=>e1 55
def jf (l7:aa c0)(dG:aa cp)(eg:aa bp):aa c0:=fun g i t t2 t3 k k2 ah ai=>
 bif (decide (t3<t2)) then
  (ae ah t).bind fun v0=>
  (idx v0 t3).bind fun _=>
  (ae ah t).bind fun v1=>
  (v1[t3.toNat]?).bind fun v2=>
  (ae ai g).bind fun v3=>
  (idx v3 i).bind fun _=>
  (ae ai g).bind fun v4=>
  (v4[i.toNat]?).bind fun v5=>
  (ae ai g).bind fun v6=>
  (idx v6 i).bind fun _=>
  (ae ai g).bind fun v7=>
  (v7[i.toNat]?).bind fun v8=>
  (ae ah v8).bind fun v9=>
  (idx v9 t3).bind fun _=>
  (ae ah v8).bind fun v10=>
  (v10[t3.toNat]?).bind fun v11=>
  (dG (v2.1,(v2.2.1,())) (k,(k2,()))).bind fun Ct=>
  (eg (v11.1,(v11.2.1,())) (Ct.1,(Ct.2.1,()))).bind fun Hf=>
  (ae ah v5).bind fun Fc=>
  (idx Fc t3).bind fun _=>
  (ae ah v5).bind fun yW=>
  (yW[t3.toNat]?).bind fun BM=>
  let e17:H0:=(gF ah v5 (yW.set t3.toNat (Hf.1,(Hf.2.1,()))))
  l7 g i t t2 (IntKind.wrap .i64 (t3+1)) k k2 e17 ai
 else
  some ((),(ah,ai))
theorem lh:E9 c0 (jf c0 cp bp):=fun _ _ _ _ _ _ _ _ _=>l1 56 0
def pf (l7:aa c0):aa ca:=fun g i j k ah ai=>
 (ae ai g).bind fun v0=>
 (idx v0 j).bind fun _=>
 (ae ai g).bind fun v1=>
 (v1[j.toNat]?).bind fun v2=>
 (ae ah v2).bind fun v3=>
 l7 g i v2 (v3.length:Int) 0 k.1 k.2.1 ah ai
theorem tH:E6 ca (pf c0):=fun _ _ _ _ _ _=>e1 56
def sf (fJ:aa eD):aa az:=fun a=>
 (fJ (!a.1) a.2.1).bind fun r0=>
 some (r0.1,(r0.2.1,()))
theorem wM:E1 az (sf eD):=fun _=>e1 57
def wN (mV:aa gf)(qI:aa gh)(N6:aa tb)(gC:aa dg):aa gf:=fun g own t t2 t3 ah ai=>
 bif (decide (t3<t2)) then
  (ae ai t).bind fun v0=>
  (idx v0 t3).bind fun _=>
  (ae ai t).bind fun v1=>
  (v1[t3.toNat]?).bind fun v2=>
  let e3:H0:=(ah++[some ([]:List lb)])
  (ae e3 (ah.length+1:Nat)).bind fun v4=>
  (ae e3 v2).bind fun v5=>
  bif (bj 32 2 v4.length v5.length) then
  bif v5.isEmpty then
   (ae ai own).bind fun v6=>
   (idx v6 t3).bind fun _=>
   (ae ai own).bind fun v7=>
   (v7[t3.toNat]?).bind fun v8=>
   let e9:H1:=(gF ai own (v7.set t3.toNat (ah.length+1:Nat)))
   mV g own t t2 (IntKind.wrap .i64 (t3+1)) e3 e9
  else
   let PK:H0:=((jB e3 (ah.length+1:Nat))++[some (v4++v5)])
   let LK:Nat:=((jB e3 (ah.length+1:Nat)).length+1:Nat)
   (ae ai own).bind fun vG=>
   (idx vG t3).bind fun _=>
   (ae ai own).bind fun wK=>
   (wK[t3.toNat]?).bind fun Fc=>
   mV g own t t2 (IntKind.wrap .i64 (t3+1)) PK (gF ai own (wK.set t3.toNat LK))
  else none
 else
  (N6 own ah ai).bind fun LS=>
  (gC (LS.1.2.1,(LS.1.2.2.1,()))).bind fun Hg=>
  (ae LS.2.2 g).bind fun Cu=>
  qI g LS.1.1 (Cu.length:Int) 0 Hg.1 Hg.2.1 LS.2.1 LS.2.2
theorem DA:E7 gf (wN gf gh tb dg):=fun _ _ _ _ _ _ _=>l1 70 0
def wO (qI:aa gh)(qJ:aa gi)(vH:aa ko)(au:aa ar):aa gh:=fun g gH t t2 m m2 ah ai=>
 bif (decide (t2<t)) then
  (ae ai g).bind fun v0=>
  (idx v0 t2).bind fun _=>
  (ae ai g).bind fun v1=>
  (v1[t2.toNat]?).bind fun v2=>
  (vH v2 (m,(m2,())) ah).bind fun r3=>
  qI g gH t (IntKind.wrap .i64 (t2+1)) m m2 r3.2 ai
 else
  (ae ai g).bind fun v4=>
  (au g ah ai).bind fun r5=>
  let e6:Int:=(bif decide (r5.1<(v4.length:Int)) then r5.1 else (v4.length:Int))
  qJ g gH e6 0 ([]:List lb) m m2 r5.2.1 r5.2.2
theorem DB:E8 gh (wO gh gi ko ar):=fun _ _ _ _ _ _ _ _=>l1 70 1
def wP (qJ:aa gi)(qK:aa gj)(N7:aa tc)(sh:aa gU):aa gi:=fun g gH t t2 out m m2 ah ai=>
 bif (decide (t2<t)) then
  (N7 g t2 (m,(m2,())) ah ai).bind fun r0=>
  (ae r0.2.2 g).bind fun v1=>
  (idx v1 t2).bind fun _=>
  (ae r0.2.2 g).bind fun v2=>
  (v2[t2.toNat]?).bind fun v3=>
  (ae r0.2.1 v3).bind fun v4=>
  (idx v4 t2).bind fun _=>
  (ae r0.2.1 v3).bind fun v5=>
  (v5[t2.toNat]?).bind fun v6=>
  (sh (v6.1,(v6.2.1,())) (m,(m2,()))).bind fun r7=>
  let e8:List lb:=([(r7.1,(r7.2.1,()))]:List lb)
  bif (bj 32 2 out.length 1) then
  qJ g gH t (IntKind.wrap .i64 (t2+1)) (out++e8) m m2 r0.2.1 r0.2.2
  else none
 else
  qK gH (out.length:Int) 0 out ah ai
theorem DC:E9 gi (wP gi gj tc gU):=fun _ _ _ _ _ _ _ _ _=>l1 70 2
def wQ (qL:aa gl):aa gj:=fun gH t t2 out ah ai=>
 bif (decide (t2<t)) then
  qL gH t2 (IntKind.wrap .i64 (t2+1)) t t2 out ah ai
 else
  bif (nc out.length 0 gH) then
  some ((out.take gH.toNat),(ah,ai))
  else none
theorem DD:E6 gj (wQ gl):=fun _ _ _ _ _ _=>l1 70 3
def wR (qL:aa gl)(qK:aa gj)(sh:aa gU)(ao:aa ak)(dG:aa cp):aa gl:=fun gH i j t t2 out ah ai=>
 bif (decide (j<(out.length:Int))) then
  (idx out i).bind fun _=>
  (out[i.toNat]?).bind fun v0=>
  (idx out j).bind fun _=>
  (out[j.toNat]?).bind fun v1=>
  (sh (v0.1,(v0.2.1,())) (v1.1,(v1.2.1,()))).bind fun r2=>
  (idx out i).bind fun _=>
  (out[i.toNat]?).bind fun v3=>
  (ao (v3.1,(v3.2.1,())) (r2.1,(r2.2.1,()))).bind fun r4=>
  (idx out j).bind fun _=>
  (out[j.toNat]?).bind fun v5=>
  (dG (v5.1,(v5.2.1,())) (r4.1.1,(r4.1.2.1,()))).bind fun r6=>
  (idx out i).bind fun _=>
  (out[i.toNat]?).bind fun v7=>
  (idx (out.set i.toNat (r2.1,(r2.2.1,()))) j).bind fun _=>
  ((out.set i.toNat (r2.1,(r2.2.1,())))[j.toNat]?).bind fun v8=>
  let e9:List lb:=((out.set i.toNat (r2.1,(r2.2.1,()))).set j.toNat (r6.1,(r6.2.1,())))
  qL gH i (IntKind.wrap .i64 (j+1)) t t2 e9 ah ai
 else
  qK gH t (IntKind.wrap .i64 (t2+1)) out ah ai
theorem DE:E8 gl (wR gl gj gU ak cp):=fun _ _ _ _ _ _ _ _=>l1 70 4
def BN (mV:aa gf):aa oE:=fun g ah ai=>
 (ae ai g).bind fun v0=>
 bif (fP 24 (v0.length:Int) (v0.length:Int)) then
 let e1:H1:=(ai++[some (List.replicate (v0.length:Int).toNat (0:Nat))])
 (ae e1 g).bind fun v2=>
 mV g (ai.length+1:Nat) g (v2.length:Int) 0 ah e1
 else none
theorem II:E3 oE (BN gf):=fun _ _ _=>e1 70
def zO (tI:aa iP)(au:aa ar)(aA:aa az):aa iO:=fun g gH neg minor l0 ah ai=>
 (ae ai g).bind fun v0=>
 (au g ah ai).bind fun r1=>
 let e2:Int:=(bif decide (r1.1<(v0.length:Int)) then r1.1 else (v0.length:Int))
 bif (decide (gH<e2)) then
  tI g gH neg gH minor l0 r1.2.1 r1.2.2
 else
  bif neg then
   (aA (minor,(l0,()))).bind fun r3=>
   some ((gH,(r3.1,(r3.2.1,()))),(r1.2.1,r1.2.2))
  else
   some ((gH,(minor,(l0,()))),(r1.2.1,r1.2.2))
theorem GG:E7 iO (zO iP ar az):=fun _ _ _ _ _ _ _=>l1 72 0
def zP (tJ:aa iQ)(aA:aa az):aa iP:=fun g gH neg i minor l0 ah ai=>
 (ae ai g).bind fun v0=>
 bif (decide (i<(v0.length:Int))) then
  tJ g gH neg i gH minor l0 ah ai
 else
  bif neg then
   (aA (minor,(l0,()))).bind fun r1=>
   some ((gH,(r1.1,(r1.2.1,()))),(ah,ai))
  else
   some ((gH,(minor,(l0,()))),(ah,ai))
theorem GH:E8 iP (zP iQ az):=fun _ _ _ _ _ _ _ _=>l1 72 1
def zQ (tJ:aa iQ)(tK:aa iO)(tI:aa iP)(au:aa ar)(ag:aa aj)(bO:aa aL)(cg:aa aW)(PW:aa wI):aa iQ:=fun g gH neg i c minor l0 ah ai=>
 (au g ah ai).bind fun r0=>
 bif (decide (c<r0.1)) then
  (ae r0.2.2 g).bind fun v1=>
  (idx v1 i).bind fun _=>
  (ae r0.2.2 g).bind fun v2=>
  (v2[i.toNat]?).bind fun v3=>
  (ae r0.2.1 v3).bind fun v4=>
  (idx v4 c).bind fun _=>
  (ae r0.2.1 v3).bind fun v5=>
  (v5[c.toNat]?).bind fun v6=>
  (ag (v6.1,(v6.2.1,()))).bind fun r7=>
  bif (r7==0) then
   tJ g gH neg i (IntKind.wrap .i64 (c+1)) minor l0 r0.2.1 r0.2.2
  else
   (bO g i gH r0.2.1 r0.2.2).bind fun r8=>
   (cg g c gH r8.2.1 r8.2.2).bind fun r9=>
   (PW g gH (minor,(l0,())) r9.2.1 r9.2.2).bind fun Bi=>
   (ae Bi.2.2 g).bind fun v11=>
   (idx v11 gH).bind fun _=>
   (ae Bi.2.2 g).bind fun vG=>
   (vG[gH.toNat]?).bind fun wK=>
   (ae Bi.2.1 wK).bind fun Fc=>
   (idx Fc gH).bind fun _=>
   (ae Bi.2.1 wK).bind fun yW=>
   (yW[gH.toNat]?).bind fun BM=>
   tK g (IntKind.wrap .i64 (gH+1)) (!((!(neg==(i != gH)))==(c != gH))) BM.1 BM.2.1 Bi.2.1 Bi.2.2
 else
  tI g gH neg (IntKind.wrap .i64 (i+1)) minor l0 r0.2.1 r0.2.2
theorem GI:E9 iQ (zQ iQ iO iP ar aj aL aW wI):=fun _ _ _ _ _ _ _ _ _=>l1 72 2
def F2 (tK:aa iO)(l5:aa l3):aa tb:=fun g ah ai=>
 (l5 1).bind fun r0=>
 tK g 0 false r0.1 r0.2.1 ah ai
theorem LU:E3 tb (F2 iO l3):=fun _ _ _=>e1 72
def jF (nx:aa dm)(ny:aa cP):aa cO:=fun t t2 t3 out a a2=>
 bif (decide (t3<t2)) then
  (idx t t3).bind fun v0=>
  nx v0 t t2 t3 0 out a a2
 else
  ny out a a2
theorem l8:E6 cO (jF dm cP):=fun _ _ _ _ _ _=>l1 74 0
def jG (nx:aa dm)(nz:aa cO):aa dm:=fun x t t2 t3 t4 out a a2=>
 bif (decide (t4<9)) then
  let e0:Int:=(IntKind.wrap .u32 (48+(x.tmod 10)))
  bif (bj 1 1 out.length 1) then
  nx (IntKind.wrap .u32 (x.tdiv 10)) t t2 t3 (IntKind.wrap .i64 (t4+1)) (out++([(IntKind.wrap .u8 e0)]:List Int)) a a2
  else none
 else
  nz t t2 (IntKind.wrap .i64 (t3+1)) out a a2
theorem l9:E8 dm (jG dm cO):=fun _ _ _ _ _ _ _ _=>l1 74 1
def nA (ny:aa cP)(jH:aa cQ):aa cP:=fun out a a2=>
 let e0:Int:=(IntKind.wrap .i64 ((out.length:Int) - 1))
 (idx out e0).bind fun _=>
 (out[e0.toNat]?).bind fun v1=>
 bif (v1==48) then
  let e2:Int:=(IntKind.wrap .i64 ((out.length:Int) - 1))
  bif (nc out.length 0 e2) then
  ny (out.take e2.toNat) a a2
  else none
 else
  bif a then
   bif (bj 1 1 out.length 1) then
   let e3:Int:=((out++([45]:List Int)).length:Int)
   jH 0 (IntKind.wrap .i64 (e3 - 1)) (out++([45]:List Int))
   else none
  else
   let e4:Int:=(IntKind.wrap .i64 ((out.length:Int) - 1))
   jH 0 e4 out
theorem rK:E3 cP (nA cP cQ):=fun _ _ _=>l1 74 2
def nB (jH:aa cQ):aa cQ:=fun i j out=>
 bif (decide (i<j)) then
  (idx out j).bind fun _=>
  (out[j.toNat]?).bind fun v0=>
  (idx out i).bind fun _=>
  (out[i.toNat]?).bind fun v1=>
  (idx out i).bind fun _=>
  (out[i.toNat]?).bind fun v2=>
  (idx (out.set i.toNat v0) j).bind fun _=>
  ((out.set i.toNat v0)[j.toNat]?).bind fun v3=>
  jH (IntKind.wrap .i64 (i+1)) (IntKind.wrap .i64 (j - 1)) ((out.set i.toNat v0).set j.toNat v1)
 else
  some (strOf out)
theorem rL:E3 cQ (nB cQ):=fun _ _ _=>l1 74 3
def qM (nz:aa cO):aa eX:=fun a=>
 bif ((a.2.1.length:Int)==0) then
  some (bs [48])
 else
  let e0:Int:=(IntKind.wrap .i64 (9*(a.2.1.length:Int)))
  bif (fP 1 0 (IntKind.wrap .i64 (e0+1))) then
  nz a.2.1 (a.2.1.length:Int) 0 ([]:List Int) a.1 a.2.1
  else none
theorem u6:E1 eX (qM cO):=fun _=>e1 74
def si (qN:aa l4):aa eU:=fun a b=>
 bif (!(a.1==b.1)) then
  bif a.1 then
   some (-1)
  else
   some 1
 else
  bif a.1 then
   (qN b.2.1 a.2.1).bind fun r0=>
   some r0
  else
   (qN a.2.1 b.2.1).bind fun r1=>
   some r1
theorem wS:E2 eU (si l4):=fun _ _=>e1 77
def u7 (u9:aa mS):aa mS:=fun u neg d t t2=>
 bif (decide (u>0)) then
  let e0:List Int:=([(IntKind.wrap .u32 (u.tmod 1000000000))]:List Int)
  bif (bj 4 1 d.length 1) then
  u9 (IntKind.wrap .u64 (u.tdiv 1000000000)) neg (d++e0) t t2
  else none
 else
  some (neg,(d,()))
theorem yc:E5 mS (u7 mS):=fun _ _ _ _ _=>l1 84 0
def IJ (u9:aa mS):aa l3:=fun n=>
 bif (decide (n<0)) then
  u9 (IntKind.wrap .u64 (0 - (IntKind.wrap .u64 n))) (decide (n<0)) ([]:List Int) false ([]:List Int)
 else
  u9 (IntKind.wrap .u64 n) (decide (n<0)) ([]:List Int) false ([]:List Int)
theorem KN:E1 l3 (IJ mS):=fun _=>e1 84
def sj:aa dg:=fun a=>
 some (false,(a.2.1,()))
theorem wT:E1 dg sj:=fun _=>e1 85
def kz (oe:aa dK)(fJ:aa eD):aa cJ:=fun t t2 t3 out a a2 b b2 t4 t5=>
 bif (decide (t3<t2)) then
  (idx t t3).bind fun v0=>
  oe t3 v0 0 t t2 t3 b2 (b2.length:Int) 0 out a a2 b b2 t4 t5
 else
  (fJ (!(a==b)) out).bind fun r1=>
  some (r1.1,(r1.2.1,()))
theorem nC:ZB cJ (kz dK eD):=fun _ _ _ _ _ _ _ _ _ _=>l1 86 0
def kA (oe:aa dK)(og:aa cJ):aa dK:=fun i x carry t t2 t3 t4 t5 t6 out a a2 b b2 t7 t8=>
 bif (decide (t6<t5)) then
  (idx t4 t6).bind fun v0=>
  let e1:Int:=(IntKind.wrap .u64 ((IntKind.wrap .u64 x)*(IntKind.wrap .u64 v0)))
  (idx out (IntKind.wrap .i64 (i+t6))).bind fun _=>
  (out[(IntKind.wrap .i64 (i+t6)).toNat]?).bind fun v2=>
  let e3:Int:=(IntKind.wrap .u64 (e1+(IntKind.wrap .u64 v2)))
  let e4:Int:=((IntKind.wrap .u64 (carry+e3)).tmod 1000000000)
  (idx out (IntKind.wrap .i64 (i+t6))).bind fun _=>
  (out[(IntKind.wrap .i64 (i+t6)).toNat]?).bind fun v5=>
  let e6:List Int:=(out.set (IntKind.wrap .i64 (i+t6)).toNat (IntKind.wrap .u32 e4))
  let e7:Int:=(IntKind.wrap .u64 ((IntKind.wrap .u64 (carry+e3)).tdiv 1000000000))
  oe i x e7 t t2 t3 t4 t5 (IntKind.wrap .i64 (t6+1)) e6 a a2 b b2 t7 t8
 else
  (idx out (IntKind.wrap .i64 (i+(b2.length:Int)))).bind fun _=>
  (out[(IntKind.wrap .i64 (i+(b2.length:Int))).toNat]?).bind fun v8=>
  let e9:List Int:=(out.set (IntKind.wrap .i64 (i+(b2.length:Int))).toNat (IntKind.wrap .u32 carry))
  og t t2 (IntKind.wrap .i64 (t3+1)) e9 a a2 b b2 t7 t8
theorem nD:E16 dK (kA dK cJ):=fun _ _ _ _ _ _ _ _ _ _ _ _ _ _ _ _=>l1 86 1
def sk (og:aa cJ):aa cp:=fun a b=>
 let e0:Int:=(IntKind.wrap .i64 ((a.2.1.length:Int)+(b.2.1.length:Int)))
 bif (fP 4 e0 e0) then
 og a.2.1 (a.2.1.length:Int) 0 (List.replicate e0.toNat 0) a.1 a.2.1 b.1 b.2.1 false ([]:List Int)
 else none
theorem wU:E2 cp (sk cJ):=fun _ _=>e1 86
def nE:aa aL:=fun g i j ah ai=>
 (ae ai g).bind fun v0=>
 (idx v0 j).bind fun _=>
 (ae ai g).bind fun v1=>
 (v1[j.toNat]?).bind fun v2=>
 (ae ai g).bind fun v3=>
 (idx v3 i).bind fun _=>
 (ae ai g).bind fun v4=>
 (v4[i.toNat]?).bind fun v5=>
 (ae ai g).bind fun v6=>
 (idx v6 i).bind fun _=>
 (ae ai g).bind fun v7=>
 (v7[i.toNat]?).bind fun v8=>
 (ae (gF ai g (v7.set i.toNat v2)) g).bind fun v9=>
 (idx v9 j).bind fun _=>
 (ae (gF ai g (v7.set i.toNat v2)) g).bind fun v10=>
 (v10[j.toNat]?).bind fun v11=>
 let LV:H1:=(gF (gF ai g (v7.set i.toNat v2)) g (v10.set j.toNat v5))
 some ((),(ah,LV))
theorem rM:E5 aL nE:=fun _ _ _ _ _=>e1 87
def zR (qN:aa l4)(zS:aa mU)(ma:aa jT)(PX:aa tD):aa mT:=fun a b=>
 (qN a b).bind fun r0=>
 bif (decide (r0<0)) then
  some (([]:List Int),a)
 else
  bif ((b.length:Int)==1) then
   (idx b 0).bind fun v1=>
   (zS a v1).bind fun r2=>
   (ma ([r2.2]:List Int)).bind fun r3=>
   some (r2.1,r3)
  else
   (PX a b).bind fun r4=>
   some (r4.1,r4.2)
theorem DF:E2 mT (zR l4 mU jT tD):=fun _ _=>e1 88
def yd (ma:aa jT):aa eD:=fun neg d=>
 (ma d).bind fun r0=>
 bif neg then
  some ((decide ((r0.length:Int)>0)),(r0,()))
 else
  some (false,(r0,()))
theorem BO:E2 eD (yd jT):=fun _ _=>e1 89
def sm (aA:aa az)(eg:aa bp):aa dZ:=fun a b=>
 (aA (b.1,(b.2.1,()))).bind fun r0=>
 (eg (a.1,(a.2.1,())) (r0.1,(r0.2.1,()))).bind fun r1=>
 some (r1.1,(r1.2.1,()))
theorem wV:E2 dZ (sm az bp):=fun _ _=>e1 90
def sn (PY:aa tE)(fJ:aa eD)(qN:aa l4)(F3:aa qG):aa bp:=fun a b=>
 bif (a.1==b.1) then
  (PY a.2.1 b.2.1).bind fun r0=>
  (fJ a.1 r0).bind fun r1=>
  some (r1.1,(r1.2.1,()))
 else
  (qN a.2.1 b.2.1).bind fun r2=>
  bif (decide (r2<0)) then
   (F3 b.2.1 a.2.1).bind fun r3=>
   (fJ b.1 r3).bind fun r4=>
   some (r4.1,(r4.2.1,()))
  else
   (F3 a.2.1 b.2.1).bind fun r5=>
   (fJ a.1 r5).bind fun r6=>
   some (r6.1,(r6.2.1,()))
theorem wW:E2 bp (sn tE eD l4 qG):=fun _ _=>e1 91
def BP (vI:aa kn)(l5:aa l3):aa kn:=fun n g t t2 ah ai=>
 bif (decide (t2<t)) then
  bif (fP 32 n n) then
  let e0:H0:=(ah++[some (List.replicate n.toNat (false,(([]:List Int),())))])
  (ae ai g).bind fun v1=>
  (idx v1 t2).bind fun _=>
  (ae ai g).bind fun v2=>
  (v2[t2.toNat]?).bind fun v3=>
  let e4:H1:=(gF ai g (v2.set t2.toNat (ah.length+1:Nat)))
  (ae e4 g).bind fun v5=>
  (idx v5 t2).bind fun _=>
  (ae e4 g).bind fun v6=>
  (v6[t2.toNat]?).bind fun v7=>
  (l5 1).bind fun r8=>
  (ae e0 v7).bind fun v9=>
  (idx v9 t2).bind fun _=>
  (ae e0 v7).bind fun v10=>
  (v10[t2.toNat]?).bind fun v11=>
  let LV:H0:=(gF e0 v7 (v10.set t2.toNat (r8.1,(r8.2.1,()))))
  vI n g t (IntKind.wrap .i64 (t2+1)) LV e4
  else none
 else
  some (g,(ah,ai))
theorem IK:E6 kn (BP kn l3):=fun _ _ _ _ _ _=>l1 92 0
def IL (vI:aa kn):aa wH:=fun n ah ai=>
 bif (fP 24 n n) then
 let e0:H1:=(ai++[some (List.replicate n.toNat (0:Nat))])
 vI n (ai.length+1:Nat) n 0 ah e0
 else none
theorem N8:E3 wH (IL kn):=fun _ _ _=>e1 92
def wX (qO:aa gn)(ao:aa ak):aa gn:=fun row t t2 t3 m m2 ah=>
 bif (decide (t3<t2)) then
  (ae ah t).bind fun v0=>
  (idx v0 t3).bind fun _=>
  (ae ah t).bind fun v1=>
  (v1[t3.toNat]?).bind fun v2=>
  (ao (v2.1,(v2.2.1,())) (m,(m2,()))).bind fun r3=>
  (ae ah row).bind fun v4=>
  (idx v4 t3).bind fun _=>
  (ae ah row).bind fun v5=>
  (v5[t3.toNat]?).bind fun v6=>
  let e7:H0:=(gF ah row (v5.set t3.toNat (r3.2.1,(r3.2.2.1,()))))
  qO row t t2 (IntKind.wrap .i64 (t3+1)) m m2 e7
 else
  some ((),ah)
theorem DG:E7 gn (wX gn ak):=fun _ _ _ _ _ _ _=>l1 106 0
def BQ (qO:aa gn):aa ko:=fun row m ah=>
 (ae ah row).bind fun v0=>
 qO row row (v0.length:Int) 0 m.1 m.2.1 ah
theorem IM:E3 ko (BQ gn):=fun _ _ _=>e1 106
def zT (tL:aa iS):aa iR:=fun g k again m m2 ah ai=>
 bif again then
  tL g k false (IntKind.wrap .i64 (k+1)) m m2 ah ai
 else
  some ((),(ah,ai))
theorem GJ:E7 iR (zT iS):=fun _ _ _ _ _ _ _=>l1 107 0
def zY (pg:aa iT)(tM:aa iU):aa iS:=fun g k again i m m2 ah ai=>
 (ae ai g).bind fun v0=>
 bif (decide (i<(v0.length:Int))) then
  pg g k again i m m2 ah ai
 else
  tM g k again (IntKind.wrap .i64 (k+1)) m m2 ah ai
theorem GK:E8 iS (zY iT iU):=fun _ _ _ _ _ _ _ _=>l1 107 1
def z0 (pg:aa iT)(tL:aa iS)(ag:aa aj)(ao:aa ak)(aA:aa az)(dT:aa ca)(vH:aa ko)(bO:aa aL):aa iT:=fun g k again i m m2 ah ai=>
 (ae ai g).bind fun v0=>
 (idx v0 i).bind fun _=>
 (ae ai g).bind fun v1=>
 (v1[i.toNat]?).bind fun v2=>
 (ae ah v2).bind fun v3=>
 (idx v3 k).bind fun _=>
 (ae ah v2).bind fun v4=>
 (v4[k.toNat]?).bind fun v5=>
 (ag (v5.1,(v5.2.1,()))).bind fun r6=>
 bif (r6 != 0) then
  (ae ai g).bind fun v7=>
  (idx v7 i).bind fun _=>
  (ae ai g).bind fun v8=>
  (v8[i.toNat]?).bind fun v9=>
  (ae ah v9).bind fun v10=>
  (idx v10 k).bind fun _=>
  (ae ah v9).bind fun v11=>
  (v11[k.toNat]?).bind fun vG=>
  (ae ai g).bind fun wK=>
  (idx wK k).bind fun _=>
  (ae ai g).bind fun Fc=>
  (Fc[k.toNat]?).bind fun yW=>
  (ae ah yW).bind fun BM=>
  (idx BM k).bind fun _=>
  (ae ah yW).bind fun Cu=>
  (Cu[k.toNat]?).bind fun BR=>
  (ao (vG.1,(vG.2.1,())) (BR.1,(BR.2.1,()))).bind fun vJ=>
  (aA (vJ.1.1,(vJ.1.2.1,()))).bind fun LW=>
  (dT g i k (LW.1,(LW.2.1,())) ah ai).bind fun Bj=>
  (ae Bj.2.2 g).bind fun WW=>
  (idx WW i).bind fun _=>
  (ae Bj.2.2 g).bind fun v23=>
  (v23[i.toNat]?).bind fun ZD=>
  (vH ZD (m,(m2,())) Bj.2.1).bind fun V2=>
  (ae Bj.2.2 g).bind fun v26=>
  (idx v26 i).bind fun _=>
  (ae Bj.2.2 g).bind fun v27=>
  (v27[i.toNat]?).bind fun v28=>
  (ae V2.2 v28).bind fun v29=>
  (idx v29 k).bind fun _=>
  (ae V2.2 v28).bind fun v30=>
  (v30[k.toNat]?).bind fun v31=>
  (ag (v31.1,(v31.2.1,()))).bind fun r32=>
  bif (r32 != 0) then
   (bO g i k V2.2 Bj.2.2).bind fun r33=>
   pg g k again i m m2 r33.2.1 r33.2.2
  else
   pg g k again i m m2 V2.2 Bj.2.2
 else
  tL g k again (IntKind.wrap .i64 (i+1)) m m2 ah ai
theorem GL:E8 iT (z0 iT iS aj ak az ca ko aL):=fun _ _ _ _ _ _ _ _=>l1 107 2
def z1 (ph:aa iV)(tN:aa iR)(au:aa ar):aa iU:=fun g k again c m m2 ah ai=>
 (au g ah ai).bind fun r0=>
 bif (decide (c<r0.1)) then
  ph g k again c m m2 r0.2.1 r0.2.2
 else
  tN g k again m m2 r0.2.1 r0.2.2
theorem GN:E8 iU (z1 iV iR ar):=fun _ _ _ _ _ _ _ _=>l1 107 3
def z2 (tO:aa iW)(tM:aa iU)(ag:aa aj)(ao:aa ak)(aA:aa az)(jg:aa dA):aa iV:=fun g k again c m m2 ah ai=>
 (ae ai g).bind fun v0=>
 (idx v0 k).bind fun _=>
 (ae ai g).bind fun v1=>
 (v1[k.toNat]?).bind fun v2=>
 (ae ah v2).bind fun v3=>
 (idx v3 c).bind fun _=>
 (ae ah v2).bind fun v4=>
 (v4[c.toNat]?).bind fun v5=>
 (ag (v5.1,(v5.2.1,()))).bind fun r6=>
 bif (r6 != 0) then
  (ae ai g).bind fun v7=>
  (idx v7 k).bind fun _=>
  (ae ai g).bind fun v8=>
  (v8[k.toNat]?).bind fun v9=>
  (ae ah v9).bind fun v10=>
  (idx v10 c).bind fun _=>
  (ae ah v9).bind fun v11=>
  (v11[c.toNat]?).bind fun vG=>
  (ae ai g).bind fun wK=>
  (idx wK k).bind fun _=>
  (ae ai g).bind fun Fc=>
  (Fc[k.toNat]?).bind fun yW=>
  (ae ah yW).bind fun BM=>
  (idx BM k).bind fun _=>
  (ae ah yW).bind fun Cu=>
  (Cu[k.toNat]?).bind fun BR=>
  (ao (vG.1,(vG.2.1,())) (BR.1,(BR.2.1,()))).bind fun vJ=>
  (aA (vJ.1.1,(vJ.1.2.1,()))).bind fun LW=>
  (jg g c k (LW.1,(LW.2.1,())) ah ai).bind fun Bj=>
  (ae Bj.2.2 g).bind fun WW=>
  tO g k again c (WW.length:Int) 0 m m2 Bj.2.1 Bj.2.2
 else
  tM g k again (IntKind.wrap .i64 (c+1)) m m2 ah ai
theorem GO:E8 iV (z2 iW iU aj ak az dA):=fun _ _ _ _ _ _ _ _=>l1 107 4
def z3 (tO:aa iW)(ph:aa iV)(ao:aa ak)(ag:aa aj)(cg:aa aW):aa iW:=fun g k again c t t2 m m2 ah ai=>
 bif (decide (t2<t)) then
  (ae ai g).bind fun v0=>
  (idx v0 t2).bind fun _=>
  (ae ai g).bind fun v1=>
  (v1[t2.toNat]?).bind fun v2=>
  (ae ai g).bind fun v3=>
  (idx v3 t2).bind fun _=>
  (ae ai g).bind fun v4=>
  (v4[t2.toNat]?).bind fun v5=>
  (ae ah v5).bind fun v6=>
  (idx v6 c).bind fun _=>
  (ae ah v5).bind fun v7=>
  (v7[c.toNat]?).bind fun v8=>
  (ao (v8.1,(v8.2.1,())) (m,(m2,()))).bind fun r9=>
  (ae ah v2).bind fun v10=>
  (idx v10 c).bind fun _=>
  (ae ah v2).bind fun v11=>
  (v11[c.toNat]?).bind fun vG=>
  let PZ:H0:=(gF ah v2 (v11.set c.toNat (r9.2.1,(r9.2.2.1,()))))
  tO g k again c t (IntKind.wrap .i64 (t2+1)) m m2 PZ ai
 else
  (ae ai g).bind fun Fc=>
  (idx Fc k).bind fun _=>
  (ae ai g).bind fun yW=>
  (yW[k.toNat]?).bind fun BM=>
  (ae ah BM).bind fun Cu=>
  (idx Cu c).bind fun _=>
  (ae ah BM).bind fun BR=>
  (BR[c.toNat]?).bind fun P0=>
  (ag (P0.1,(P0.2.1,()))).bind fun LW=>
  bif (LW != 0) then
   (cg g c k ah ai).bind fun Bj=>
   ph g k true c m m2 Bj.2.1 Bj.2.2
  else
   ph g k again c m m2 ah ai
theorem GP:ZB iW (z3 iW iV ak aj aW):=fun _ _ _ _ _ _ _ _ _ _=>l1 107 5
def F4 (tN:aa iR)(N9:aa td):aa tc:=fun g k m ah ai=>
 (N9 g k ah ai).bind fun r0=>
 bif (!r0.1) then
  some ((),(r0.2.1,r0.2.2))
 else
  tN g k true m.1 m.2.1 r0.2.1 r0.2.2
theorem LZ:E5 tc (F4 iR td):=fun _ _ _ _ _=>e1 107
def tP (kB:aa eO)(IN:aa wJ)(Oa:aa te)(l5:aa l3)(u5:aa mT)(ma:aa jT):aa eO:=fun x y t t2=>
 bif (decide ((y.length:Int)>0)) then
  bif (decide ((x.length:Int)≤2)) then
   bif (decide ((y.length:Int)≤2)) then
    (IN x).bind fun r0=>
    (IN y).bind fun r1=>
    (Oa r0 r1).bind fun r2=>
    (l5 r2).bind fun r3=>
    some (r3.1,(r3.2.1,()))
   else
    (u5 x y).bind fun r4=>
    (ma r4.2).bind fun r5=>
    kB y r5 t t2
  else
   (u5 x y).bind fun r6=>
   (ma r6.2).bind fun r7=>
   kB y r7 t t2
 else
  some (false,(x,()))
theorem Bk:E4 eO (tP eO wJ te l3 mT jT):=fun _ _ _ _=>l1 108 0
def yG (kB:aa eO):aa gU:=fun a b=>
 kB a.2.1 b.2.1 false ([]:List Int)
theorem Fe:E2 gU (yG eO):=fun _ _=>e1 108
def nj (iD:aa bL):aa bL:=fun i j t t2 t3 ah ai=>
 bif (decide (t3<t2)) then
  (ae ai t).bind fun v0=>
  (idx v0 t3).bind fun _=>
  (ae ai t).bind fun v1=>
  (v1[t3.toNat]?).bind fun v2=>
  (ae ah v2).bind fun v3=>
  (idx v3 j).bind fun _=>
  (ae ah v2).bind fun v4=>
  (v4[j.toNat]?).bind fun v5=>
  (ae ah v2).bind fun v6=>
  (idx v6 i).bind fun _=>
  (ae ah v2).bind fun v7=>
  (v7[i.toNat]?).bind fun v8=>
  (ae ah v2).bind fun v9=>
  (idx v9 i).bind fun _=>
  (ae ah v2).bind fun v10=>
  (v10[i.toNat]?).bind fun v11=>
  let LV:H0:=(gF ah v2 (v10.set i.toNat (v5.1,(v5.2.1,()))))
  (ae LV v2).bind fun wK=>
  (idx wK j).bind fun _=>
  (ae LV v2).bind fun Fc=>
  (Fc[j.toNat]?).bind fun yW=>
  let e16:H0:=(gF LV v2 (Fc.set j.toNat (v8.1,(v8.2.1,()))))
  iD i j t t2 (IntKind.wrap .i64 (t3+1)) e16 ai
 else
  some ((),(ah,ai))
theorem tQ:E7 bL (nj bL):=fun _ _ _ _ _ _ _=>l1 109 0
def pj (iD:aa bL):aa aW:=fun g i j ah ai=>
 (ae ai g).bind fun v0=>
 iD i j g (v0.length:Int) 0 ah ai
theorem wY:E5 aW (pj bL):=fun _ _ _ _ _=>e1 109
def BS (vK:aa kq):aa kp:=fun g k i before sW ah ai=>
 (ae ai g).bind fun v0=>
 bif (decide (i<(v0.length:Int))) then
  vK g k i (IntKind.wrap .i64 (k+1)) before sW ah ai
 else
  some ((),(ah,ai))
theorem IP:E7 kp (BS kq):=fun _ _ _ _ _ _ _=>l1 110 0
def BT (vK:aa kq)(vL:aa kp)(au:aa ar)(dG:aa cp)(se:aa dZ)(ao:aa ak):aa kq:=fun g k i c before sW ah ai=>
 (au g ah ai).bind fun r0=>
 bif (decide (c<r0.1)) then
  (ae r0.2.2 g).bind fun v1=>
  (idx v1 i).bind fun _=>
  (ae r0.2.2 g).bind fun v2=>
  (v2[i.toNat]?).bind fun v3=>
  (ae r0.2.1 v3).bind fun v4=>
  (idx v4 c).bind fun _=>
  (ae r0.2.1 v3).bind fun v5=>
  (v5[c.toNat]?).bind fun v6=>
  (ae r0.2.2 g).bind fun v7=>
  (idx v7 k).bind fun _=>
  (ae r0.2.2 g).bind fun v8=>
  (v8[k.toNat]?).bind fun v9=>
  (ae r0.2.1 v9).bind fun v10=>
  (idx v10 k).bind fun _=>
  (ae r0.2.1 v9).bind fun v11=>
  (v11[k.toNat]?).bind fun vG=>
  (dG (v6.1,(v6.2.1,())) (vG.1,(vG.2.1,()))).bind fun Hf=>
  (ae r0.2.2 g).bind fun Fc=>
  (idx Fc i).bind fun _=>
  (ae r0.2.2 g).bind fun yW=>
  (yW[i.toNat]?).bind fun BM=>
  (ae r0.2.1 BM).bind fun Cu=>
  (idx Cu k).bind fun _=>
  (ae r0.2.1 BM).bind fun BR=>
  (BR[k.toNat]?).bind fun P0=>
  (ae r0.2.2 g).bind fun v20=>
  (idx v20 k).bind fun _=>
  (ae r0.2.2 g).bind fun YW=>
  (YW[k.toNat]?).bind fun WW=>
  (ae r0.2.1 WW).bind fun v23=>
  (idx v23 c).bind fun _=>
  (ae r0.2.1 WW).bind fun ZD=>
  (ZD[c.toNat]?).bind fun v25=>
  (dG (P0.1,(P0.2.1,())) (v25.1,(v25.2.1,()))).bind fun OV=>
  (se (Hf.1,(Hf.2.1,())) (OV.1,(OV.2.1,()))).bind fun ZE=>
  (ae r0.2.2 g).bind fun v28=>
  (idx v28 i).bind fun _=>
  (ae r0.2.2 g).bind fun v29=>
  (v29[i.toNat]?).bind fun v30=>
  (ao (ZE.1,(ZE.2.1,())) (before,(sW,()))).bind fun r31=>
  (ae r0.2.1 v30).bind fun v32=>
  (idx v32 c).bind fun _=>
  (ae r0.2.1 v30).bind fun v33=>
  (v33[c.toNat]?).bind fun v34=>
  let e35:H0:=(gF r0.2.1 v30 (v33.set c.toNat (r31.1.1,(r31.1.2.1,()))))
  vK g k i (IntKind.wrap .i64 (c+1)) before sW e35 r0.2.2
 else
  vL g k (IntKind.wrap .i64 (i+1)) before sW r0.2.1 r0.2.2
theorem IQ:E8 kq (BT kq kp ar cp dZ ak):=fun _ _ _ _ _ _ _ _=>l1 110 1
def IS (vL:aa kp):aa wI:=fun g k before ah ai=>
 vL g k (IntKind.wrap .i64 (k+1)) before.1 before.2.1 ah ai
theorem Ob:E5 wI (IS kp):=fun _ _ _ _ _=>e1 110
def rj (vM:aa iX):aa iX:=fun a b i=>
 bif (decide (i≥0)) then
  (idx a i).bind fun v0=>
  (idx b i).bind fun v1=>
  bif (v0 != v1) then
   (idx a i).bind fun v2=>
   (idx b i).bind fun v3=>
   bif (decide (v2<v3)) then
    some (-1)
   else
    some 1
  else
   vM a b (IntKind.wrap .i64 (i - 1))
 else
  some 0
theorem tR:E3 iX (rj iX):=fun _ _ _=>l1 112 0
def Cv (vM:aa iX):aa l4:=fun a b=>
 bif ((a.length:Int) != (b.length:Int)) then
  bif (decide ((a.length:Int)<(b.length:Int))) then
   some (-1)
  else
   some 1
 else
  let e0:Int:=(IntKind.wrap .i64 ((a.length:Int) - 1))
  vM a b e0
theorem F5:E2 l4 (Cv iX):=fun _ _=>e1 112
def pk (tS:aa gN):aa gN:=fun a b rest i out=>
 bif (decide (i≥0)) then
  (idx a i).bind fun v0=>
  let e1:Int:=(IntKind.wrap .u64 ((IntKind.wrap .u64 (rest*1000000000))+(IntKind.wrap .u64 v0)))
  bif (!((IntKind.wrap .u64 b)==0)) then
  let e2:Int:=(IntKind.wrap .u64 (e1.tdiv (IntKind.wrap .u64 b)))
  bif (!((IntKind.wrap .u64 b)==0)) then
  (idx out i).bind fun _=>
  (out[i.toNat]?).bind fun v3=>
  tS a b (e1.tmod (IntKind.wrap .u64 b)) (IntKind.wrap .i64 (i - 1)) (out.set i.toNat (IntKind.wrap .u32 e2))
  else none
  else none
 else
  some (out,(IntKind.wrap .u32 rest))
theorem so:E5 gN (pk gN):=fun _ _ _ _ _=>l1 116 0
def z4 (tS:aa gN):aa mU:=fun a b=>
 bif (fP 4 (a.length:Int) (a.length:Int)) then
 let e0:List Int:=(List.replicate (a.length:Int).toNat 0)
 let e1:Int:=(IntKind.wrap .i64 ((a.length:Int) - 1))
 tS a b 0 e1 e0
 else none
theorem DH:E2 mU (z4 gN):=fun _ _=>e1 116
def rk (vN:aa iY):aa iY:=fun d=>
 bif (decide ((d.length:Int)>0)) then
  let e0:Int:=(IntKind.wrap .i64 ((d.length:Int) - 1))
  (idx d e0).bind fun v1=>
  bif (v1==0) then
   let e2:Int:=(IntKind.wrap .i64 ((d.length:Int) - 1))
   bif (nc d.length 0 e2) then
   vN (cut d 0 e2)
   else none
  else
   some d
 else
  some d
theorem tT:E1 iY (rk iY):=fun _=>l1 117 0
def Cw (vN:aa iY):aa jT:=fun d=>
 vN d
theorem F6:E1 jT (Cw iY):=fun _=>e1 117
def rl (rm:aa gp)(zS:aa mU):aa dz:=fun k v n j q u=>
 bif (decide (j≥0)) then
  (idx u (IntKind.wrap .i64 (j+n))).bind fun _=>
  (u[(IntKind.wrap .i64 (j+n)).toNat]?).bind fun v0=>
  let e1:Int:=(IntKind.wrap .u64 ((IntKind.wrap .u64 v0)*1000000000))
  let e2:Int:=(IntKind.wrap .i64 ((IntKind.wrap .i64 (j+n)) - 1))
  (idx u e2).bind fun _=>
  (u[e2.toNat]?).bind fun v3=>
  let e4:Int:=(IntKind.wrap .u64 (e1+(IntKind.wrap .u64 v3)))
  (idx v (IntKind.wrap .i64 (n - 1))).bind fun v5=>
  bif (!((IntKind.wrap .u64 v5)==0)) then
  let e6:Int:=(IntKind.wrap .u64 (e4.tdiv (IntKind.wrap .u64 v5)))
  (idx v (IntKind.wrap .i64 (n - 1))).bind fun v7=>
  bif (!((IntKind.wrap .u64 v7)==0)) then
  rm k v n j e6 (e4.tmod (IntKind.wrap .u64 v7)) q u
  else none
  else none
 else
  bif (nc u.length 0 n) then
  (zS (u.take n.toNat) k).bind fun r8=>
  some (q,r8.1)
  else none
theorem tU:E6 dz (rl gp mU):=fun _ _ _ _ _ _=>l1 118 0
def rq (gW:aa eP)(rm:aa gp):aa gp:=fun k v n j guess rest q u=>
 bif (decide (guess≥1000000000)) then
  (idx v (IntKind.wrap .i64 (n - 1))).bind fun v0=>
  let e1:Int:=(IntKind.wrap .u64 (rest+(IntKind.wrap .u64 v0)))
  bif (decide (e1≥1000000000)) then
   gW k v n j (IntKind.wrap .u64 (guess - 1)) 0 n 0 q u
  else
   rm k v n j (IntKind.wrap .u64 (guess - 1)) e1 q u
 else
  (idx v (IntKind.wrap .i64 (n - 2))).bind fun v2=>
  let e3:Int:=(IntKind.wrap .u64 (guess*(IntKind.wrap .u64 v2)))
  let e4:Int:=(IntKind.wrap .i64 ((IntKind.wrap .i64 (j+n)) - 2))
  (idx u e4).bind fun _=>
  (u[e4.toNat]?).bind fun v5=>
  let e6:Int:=(IntKind.wrap .u64 ((IntKind.wrap .u64 (rest*1000000000))+(IntKind.wrap .u64 v5)))
  bif (decide (e3>e6)) then
   (idx v (IntKind.wrap .i64 (n - 1))).bind fun v7=>
   let e8:Int:=(IntKind.wrap .u64 (rest+(IntKind.wrap .u64 v7)))
   bif (decide (e8≥1000000000)) then
    gW k v n j (IntKind.wrap .u64 (guess - 1)) 0 n 0 q u
   else
    rm k v n j (IntKind.wrap .u64 (guess - 1)) e8 q u
  else
   gW k v n j guess 0 n 0 q u
theorem tV:E8 gp (rq eP gp):=fun _ _ _ _ _ _ _ _=>l1 118 1
def ry (gW:aa eP)(vO:aa gV)(nN:aa dz):aa eP:=fun k v n j guess borrow t t2 q u=>
 bif (decide (t2<t)) then
  (idx u (IntKind.wrap .i64 (t2+j))).bind fun _=>
  (u[(IntKind.wrap .i64 (t2+j)).toNat]?).bind fun v0=>
  let e1:Int:=(IntKind.wrap .i64 ((IntKind.wrap .i64 v0) - borrow))
  (idx v t2).bind fun v2=>
  let e3:Int:=(IntKind.wrap .i64 ((IntKind.wrap .i64 guess)*(IntKind.wrap .i64 v2)))
  let e4:Int:=(IntKind.wrap .i64 (e1 - (e3.tmod 1000000000)))
  (idx v t2).bind fun v5=>
  let e6:Int:=(IntKind.wrap .i64 ((IntKind.wrap .i64 guess)*(IntKind.wrap .i64 v5)))
  bif (decide (e4<0)) then
   let e7:Int:=(IntKind.wrap .i64 ((IntKind.wrap .i64 (e6.tdiv 1000000000))+1))
   bif (decide ((IntKind.wrap .i64 (e4+1000000000))<0)) then
    let e8:Int:=(IntKind.wrap .i64 ((IntKind.wrap .i64 (e4+1000000000))+1000000000))
    (idx u (IntKind.wrap .i64 (t2+j))).bind fun _=>
    (u[(IntKind.wrap .i64 (t2+j)).toNat]?).bind fun v9=>
    let PK:List Int:=(u.set (IntKind.wrap .i64 (t2+j)).toNat (IntKind.wrap .u32 e8))
    gW k v n j guess (IntKind.wrap .i64 (e7+1)) t (IntKind.wrap .i64 (t2+1)) q PK
   else
    let LK:Int:=(IntKind.wrap .u32 (IntKind.wrap .i64 (e4+1000000000)))
    (idx u (IntKind.wrap .i64 (t2+j))).bind fun _=>
    (u[(IntKind.wrap .i64 (t2+j)).toNat]?).bind fun vG=>
    gW k v n j guess e7 t (IntKind.wrap .i64 (t2+1)) q (u.set (IntKind.wrap .i64 (t2+j)).toNat LK)
  else
   bif (decide (e4<0)) then
    let PZ:Int:=(IntKind.wrap .i64 ((IntKind.wrap .i64 (e6.tdiv 1000000000))+1))
    let UT:Int:=(IntKind.wrap .u32 (IntKind.wrap .i64 (e4+1000000000)))
    (idx u (IntKind.wrap .i64 (t2+j))).bind fun _=>
    (u[(IntKind.wrap .i64 (t2+j)).toNat]?).bind fun yW=>
    gW k v n j guess PZ t (IntKind.wrap .i64 (t2+1)) q (u.set (IntKind.wrap .i64 (t2+j)).toNat UT)
   else
    (idx u (IntKind.wrap .i64 (t2+j))).bind fun _=>
    (u[(IntKind.wrap .i64 (t2+j)).toNat]?).bind fun BM=>
    let e17:List Int:=(u.set (IntKind.wrap .i64 (t2+j)).toNat (IntKind.wrap .u32 e4))
    gW k v n j guess (IntKind.wrap .i64 (e6.tdiv 1000000000)) t (IntKind.wrap .i64 (t2+1)) q e17
 else
  (idx u (IntKind.wrap .i64 (j+n))).bind fun _=>
  (u[(IntKind.wrap .i64 (j+n)).toNat]?).bind fun BR=>
  let YX:Int:=(IntKind.wrap .i64 ((IntKind.wrap .i64 BR) - borrow))
  bif (decide (YX<0)) then
   vO k v n j (IntKind.wrap .u64 (guess - 1)) YX 0 n 0 q u
  else
   (idx u (IntKind.wrap .i64 (j+n))).bind fun _=>
   (u[(IntKind.wrap .i64 (j+n)).toNat]?).bind fun v20=>
   let e21:List Int:=(u.set (IntKind.wrap .i64 (j+n)).toNat 0)
   (idx q j).bind fun _=>
   (q[j.toNat]?).bind fun WW=>
   nN k v n (IntKind.wrap .i64 (j - 1)) (q.set j.toNat (IntKind.wrap .u32 guess)) e21
theorem tW:ZB eP (ry eP gV dz):=fun _ _ _ _ _ _ _ _ _ _=>l1 118 2
def rz (vO:aa gV)(nN:aa dz):aa gV:=fun k v n j guess x carry t t2 q u=>
 bif (decide (t2<t)) then
  (idx u (IntKind.wrap .i64 (t2+j))).bind fun _=>
  (u[(IntKind.wrap .i64 (t2+j)).toNat]?).bind fun v0=>
  (idx v t2).bind fun v1=>
  let e2:Int:=(IntKind.wrap .u32 ((IntKind.wrap .u32 (v0+v1))+carry))
  (idx u (IntKind.wrap .i64 (t2+j))).bind fun _=>
  (u[(IntKind.wrap .i64 (t2+j)).toNat]?).bind fun v3=>
  let e4:List Int:=(u.set (IntKind.wrap .i64 (t2+j)).toNat (e2.tmod 1000000000))
  vO k v n j guess x (IntKind.wrap .u32 (e2.tdiv 1000000000)) t (IntKind.wrap .i64 (t2+1)) q e4
 else
  let e5:Int:=(IntKind.wrap .i64 (x+(IntKind.wrap .i64 carry)))
  (idx u (IntKind.wrap .i64 (j+n))).bind fun _=>
  (u[(IntKind.wrap .i64 (j+n)).toNat]?).bind fun v6=>
  let e7:List Int:=(u.set (IntKind.wrap .i64 (j+n)).toNat 0)
  (idx q j).bind fun _=>
  (q[j.toNat]?).bind fun v8=>
  nN k v n (IntKind.wrap .i64 (j - 1)) (q.set j.toNat (IntKind.wrap .u32 guess)) e7
theorem tX:E11 gV (rz gV dz):=fun _ _ _ _ _ _ _ _ _ _ _=>l1 118 3
def Cx (nN:aa dz)(DI:aa oa)(ma:aa jT):aa tD:=fun a b=>
 let e0:Int:=(IntKind.wrap .i64 ((b.length:Int) - 1))
 (idx b e0).bind fun v1=>
 let e2:Int:=(IntKind.wrap .u64 ((IntKind.wrap .u64 v1)+1))
 bif (!(e2==0)) then
 let e3:Int:=(IntKind.wrap .u32 (IntKind.wrap .u64 ((1000000000:Int).tdiv e2)))
 (DI a e3).bind fun r4=>
 (DI b e3).bind fun r5=>
 (ma r5).bind fun r6=>
 let e7:Int:=(IntKind.wrap .i64 ((r4.length:Int) - (r6.length:Int)))
 bif (fP 4 e7 e7) then
 let e8:Int:=(IntKind.wrap .i64 ((r4.length:Int) - (r6.length:Int)))
 nN e3 r6 (r6.length:Int) (IntKind.wrap .i64 (e8 - 1)) (List.replicate e7.toNat 0) r4
 else none
 else none
theorem F7:E2 tD (Cx dz oa jT):=fun _ _=>e1 118
def rA (nO:aa iZ):aa iZ:=fun b carry t t2 t3 out=>
 bif (decide (t3<t2)) then
  (idx t t3).bind fun v0=>
  bif (decide (t3<(b.length:Int))) then
   (idx b t3).bind fun v1=>
   let e2:Int:=(IntKind.wrap .u32 ((IntKind.wrap .u32 (v0+carry))+v1))
   bif (bj 4 1 out.length 1) then
   let e3:List Int:=(out++([(e2.tmod 1000000000)]:List Int))
   nO b (IntKind.wrap .u32 (e2.tdiv 1000000000)) t t2 (IntKind.wrap .i64 (t3+1)) e3
   else none
  else
   let e4:Int:=(IntKind.wrap .u32 ((IntKind.wrap .u32 (v0+carry)).tdiv 1000000000))
   let e5:Int:=((IntKind.wrap .u32 (v0+carry)).tmod 1000000000)
   bif (bj 4 1 out.length 1) then
   nO b e4 t t2 (IntKind.wrap .i64 (t3+1)) (out++([e5]:List Int))
   else none
 else
  bif (bj 4 1 out.length 1) then
  some (out++([carry]:List Int))
  else none
theorem tY:E6 iZ (rA iZ):=fun _ _ _ _ _ _=>l1 119 0
def ye (nO:aa iZ):aa tE:=fun a b=>
 bif (decide ((a.length:Int)<(b.length:Int))) then
  let e0:Int:=(IntKind.wrap .i64 ((b.length:Int)+1))
  bif (fP 4 0 e0) then
  nO a 0 b (b.length:Int) 0 ([]:List Int)
  else none
 else
  let e1:Int:=(IntKind.wrap .i64 ((a.length:Int)+1))
  bif (fP 4 0 e1) then
  nO b 0 a (a.length:Int) 0 ([]:List Int)
  else none
theorem z5:E2 tE (ye iZ):=fun _ _=>e1 119
def pn (jU:aa gO):aa gO:=fun b borrow t t2 t3 out=>
 bif (decide (t3<t2)) then
  (idx t t3).bind fun v0=>
  bif (decide (t3<(b.length:Int))) then
   (idx b t3).bind fun v1=>
   bif (decide (v0<(IntKind.wrap .u32 (borrow+v1)))) then
    let e2:Int:=(IntKind.wrap .u32 ((IntKind.wrap .u32 (v0+1000000000)) - (IntKind.wrap .u32 (borrow+v1))))
    bif (bj 4 1 out.length 1) then
    jU b 1 t t2 (IntKind.wrap .i64 (t3+1)) (out++([e2]:List Int))
    else none
   else
    let e3:Int:=(IntKind.wrap .u32 (v0 - (IntKind.wrap .u32 (borrow+v1))))
    bif (bj 4 1 out.length 1) then
    jU b 0 t t2 (IntKind.wrap .i64 (t3+1)) (out++([e3]:List Int))
    else none
  else
   bif (decide (v0<borrow)) then
    let e4:Int:=(IntKind.wrap .u32 ((IntKind.wrap .u32 (v0+1000000000)) - borrow))
    bif (bj 4 1 out.length 1) then
    jU b 1 t t2 (IntKind.wrap .i64 (t3+1)) (out++([e4]:List Int))
    else none
   else
    bif (bj 4 1 out.length 1) then
    let e5:List Int:=(out++([(IntKind.wrap .u32 (v0 - borrow))]:List Int))
    jU b 0 t t2 (IntKind.wrap .i64 (t3+1)) e5
    else none
 else
  some out
theorem sq:E6 gO (pn gO):=fun _ _ _ _ _ _=>l1 120 0
def z6 (jU:aa gO):aa qG:=fun a b=>
 bif (fP 4 0 (a.length:Int)) then
 jU b 0 a (a.length:Int) 0 ([]:List Int)
 else none
theorem DJ:E2 qG (z6 gO):=fun _ _=>e1 120
def z7 (tZ:aa jc):aa jb:=fun g k i ah ai=>
 (ae ai g).bind fun v0=>
 bif (decide (i<(v0.length:Int))) then
  tZ g k i k ah ai
 else
  some (false,(ah,ai))
theorem GQ:E5 jb (z7 jc):=fun _ _ _ _ _=>l1 125 0
def z8 (tZ:aa jc)(ua:aa jb)(au:aa ar)(ag:aa aj)(bO:aa aL)(cg:aa aW):aa jc:=fun g k i c ah ai=>
 (au g ah ai).bind fun r0=>
 bif (decide (c<r0.1)) then
  (ae r0.2.2 g).bind fun v1=>
  (idx v1 i).bind fun _=>
  (ae r0.2.2 g).bind fun v2=>
  (v2[i.toNat]?).bind fun v3=>
  (ae r0.2.1 v3).bind fun v4=>
  (idx v4 c).bind fun _=>
  (ae r0.2.1 v3).bind fun v5=>
  (v5[c.toNat]?).bind fun v6=>
  (ag (v6.1,(v6.2.1,()))).bind fun r7=>
  bif (r7 != 0) then
   (bO g i k r0.2.1 r0.2.2).bind fun r8=>
   (cg g c k r8.2.1 r8.2.2).bind fun r9=>
   some (true,(r9.2.1,r9.2.2))
  else
   tZ g k i (IntKind.wrap .i64 (c+1)) r0.2.1 r0.2.2
 else
  ua g k (IntKind.wrap .i64 (i+1)) r0.2.1 r0.2.2
theorem GR:E6 jc (z8 jc jb ar aj aL aW):=fun _ _ _ _ _ _=>l1 125 1
def F8 (ua:aa jb):aa td:=fun g k ah ai=>
 ua g k k ah ai
theorem L0:E4 td (F8 jb):=fun _ _ _ _=>e1 125
def oF (jV:aa cz)(dG:aa cp)(eg:aa bp):aa cz:=fun i j t t2 t3 k k2 ah ai=>
 bif (decide (t3<t2)) then
  (ae ai t).bind fun v0=>
  (idx v0 t3).bind fun _=>
  (ae ai t).bind fun v1=>
  (v1[t3.toNat]?).bind fun v2=>
  (ae ah v2).bind fun v3=>
  (idx v3 i).bind fun _=>
  (ae ah v2).bind fun v4=>
  (v4[i.toNat]?).bind fun v5=>
  (ae ah v2).bind fun v6=>
  (idx v6 j).bind fun _=>
  (ae ah v2).bind fun v7=>
  (v7[j.toNat]?).bind fun v8=>
  (dG (v8.1,(v8.2.1,())) (k,(k2,()))).bind fun r9=>
  (eg (v5.1,(v5.2.1,())) (r9.1,(r9.2.1,()))).bind fun Bi=>
  (ae ah v2).bind fun v11=>
  (idx v11 i).bind fun _=>
  (ae ah v2).bind fun vG=>
  (vG[i.toNat]?).bind fun wK=>
  let UT:H0:=(gF ah v2 (vG.set i.toNat (Bi.1,(Bi.2.1,()))))
  jV i j t t2 (IntKind.wrap .i64 (t3+1)) k k2 UT ai
 else
  some ((),(ah,ai))
theorem vP:E9 cz (oF cz cp bp):=fun _ _ _ _ _ _ _ _ _=>l1 126 0
def rN (jV:aa cz):aa dA:=fun g i j k ah ai=>
 (ae ai g).bind fun v0=>
 jV i j g (v0.length:Int) 0 k.1 k.2.1 ah ai
theorem yX:E6 dA (rN cz):=fun _ _ _ _ _ _=>e1 126
def z9 (ub:aa jd):aa jd:=fun x y=>
 bif (decide (y>0)) then
  bif (!(y==0)) then
  ub y (x.tmod y)
  else none
 else
  some x
theorem GS:E2 jd (z9 jd):=fun _ _=>l1 127 0
def F9 (ub:aa jd):aa te:=fun x y=>
 ub x y
theorem L3:E2 te (F9 jd):=fun _ _=>e1 127
def BU (vQ:aa kr):aa kr:=fun d n i=>
 bif (decide (i≥0)) then
  (idx d i).bind fun v0=>
  let e1:Int:=(IntKind.wrap .i64 ((IntKind.wrap .i64 (n*1000000000))+(IntKind.wrap .i64 v0)))
  vQ d e1 (IntKind.wrap .i64 (i - 1))
 else
  some n
theorem IT:E3 kr (BU kr):=fun _ _ _=>l1 128 0
def IU (vQ:aa kr):aa wJ:=fun d=>
 let e0:Int:=(IntKind.wrap .i64 ((d.length:Int) - 1))
 vQ d 0 e0
theorem Od:E1 wJ (IU kr):=fun _=>e1 128
def nV (sr:aa fI):aa fI:=fun k carry t t2 t3 out=>
 bif (decide (t3<t2)) then
  (idx t t3).bind fun v0=>
  let e1:Int:=(IntKind.wrap .u64 ((IntKind.wrap .u64 v0)*(IntKind.wrap .u64 k)))
  let e2:Int:=((IntKind.wrap .u64 (carry+e1)).tmod 1000000000)
  bif (bj 4 1 out.length 1) then
  let e3:Int:=(IntKind.wrap .u64 ((IntKind.wrap .u64 (carry+e1)).tdiv 1000000000))
  sr k e3 t t2 (IntKind.wrap .i64 (t3+1)) (out++([(IntKind.wrap .u32 e2)]:List Int))
  else none
 else
  bif (bj 4 1 out.length 1) then
  let e4:List Int:=(out++([(IntKind.wrap .u32 carry)]:List Int))
  some e4
  else none
theorem qP:E6 fI (nV fI):=fun _ _ _ _ _ _=>l1 130 0
def yf (sr:aa fI):aa oa:=fun a k=>
 let e0:Int:=(IntKind.wrap .i64 ((a.length:Int)+1))
 bif (fP 4 0 e0) then
 sr k 0 a (a.length:Int) 0 ([]:List Int)
 else none
theorem BV:E2 oa (yf fI):=fun _ _=>e1 130
end
noncomputable section
def ij (ik:aa bo)(kC:aa bZ)(IV:aa iM)(ag:aa aj)(lJ:aa dE)(JF:aa kl):aa bo:=fun g r t t2 ah ai=>
 bif (decide (t2<t)) then
  (IV g r t2 ah ai).bind fun r0=>
  bif (!r0.1) then
   ik g r t (IntKind.wrap .i64 (t2+1)) r0.2.1 r0.2.2
  else
   (ae r0.2.2 g).bind fun v1=>
   (idx v1 r).bind fun _=>
   (ae r0.2.2 g).bind fun v2=>
   (v2[r.toNat]?).bind fun v3=>
   (ae r0.2.1 v3).bind fun v4=>
   (idx v4 t2).bind fun _=>
   (ae r0.2.1 v3).bind fun v5=>
   (v5[t2.toNat]?).bind fun v6=>
   (ag (v6.1,(v6.2.1,()))).bind fun r7=>
   bif (decide (r7<0)) then
    (lJ g r r0.2.1 r0.2.2).bind fun r8=>
    kC g r t2 t t2 r 0 r8.2.1 r8.2.2
   else
    kC g r t2 t t2 r 0 r0.2.1 r0.2.2
 else
  (JF g ah ai).bind fun r9=>
  some (r9,(0:Int))
theorem jI:E6 bo (ij bo bZ iM aj dE kl):=fun _ _ _ _ _ _=>l1 15 0
def kD (kC:aa bZ)(ik:aa bo)(ao:aa ak)(aA:aa az)(dT:aa ca):aa bZ:=fun g r c t t2 t3 t4 ah ai=>
 bif (decide (t4<t3)) then
  (ae ai g).bind fun v0=>
  (idx v0 t4).bind fun _=>
  (ae ai g).bind fun v1=>
  (v1[t4.toNat]?).bind fun v2=>
  (ae ah v2).bind fun v3=>
  (idx v3 c).bind fun _=>
  (ae ah v2).bind fun v4=>
  (v4[c.toNat]?).bind fun v5=>
  (ae ai g).bind fun v6=>
  (idx v6 r).bind fun _=>
  (ae ai g).bind fun v7=>
  (v7[r.toNat]?).bind fun v8=>
  (ae ah v8).bind fun v9=>
  (idx v9 c).bind fun _=>
  (ae ah v8).bind fun v10=>
  (v10[c.toNat]?).bind fun v11=>
  (ao (v5.1,(v5.2.1,())) (v11.1,(v11.2.1,()))).bind fun Ct=>
  (aA (Ct.1.1,(Ct.1.2.1,()))).bind fun Hf=>
  (dT g t4 r (Hf.1,(Hf.2.1,())) ah ai).bind fun Hh=>
  kC g r c t t2 t3 (IntKind.wrap .i64 (t4+1)) Hh.2.1 Hh.2.2
 else
  ik g (IntKind.wrap .i64 (r+1)) t (IntKind.wrap .i64 (t2+1)) ah ai
theorem nF:E9 bZ (kD bZ bo ak az ca):=fun _ _ _ _ _ _ _ _ _=>l1 15 1
def nW (ik:aa bo)(oh:aa cI)(fe:aa cY)(au:aa ar):aa eT:=fun m=>
 (oh m).bind fun r0=>
 bif (r0 != 0) then
  some (([]:List (List ByteArray)),r0)
 else
  (fe m ([]:H0) ([]:H1)).bind fun r1=>
  (au r1.1 r1.2.1 r1.2.2).bind fun r2=>
  ik r1.1 0 r2.1 0 r2.2.1 r2.2.2
theorem qQ:E1 eT (nW bo cI cY ar):=fun _=>e1 15
def wZ (mW:aa fW)(qR:aa fX)(fe:aa cY)(Aa:aa oD)(ag:aa aj)(ao:aa ak):aa fW:=fun b s d z t t2 t3 ah ai fm=>
 bif (decide (t3<t2)) then
  (ae ai t).bind fun v0=>
  (idx v0 t3).bind fun _=>
  (ae ai t).bind fun v1=>
  (v1[t3.toNat]?).bind fun v2=>
  (fe ([b]:List (List Int)) ah ai).bind fun r3=>
  (ae r3.2.2 r3.1).bind fun v4=>
  (idx v4 0).bind fun _=>
  (ae r3.2.2 r3.1).bind fun v5=>
  (v5[(0:Int).toNat]?).bind fun v6=>
  (Aa v2 v6 r3.2.1).bind fun r7=>
  bif (decide (t3≥(d.length:Int))) then
   (ag (r7.1,(r7.2.1,()))).bind fun r8=>
   bif (r8 != 0) then
    some (([]:List ByteArray),(4:Int))
   else
    mW b s d z t t2 (IntKind.wrap .i64 (t3+1)) r3.2.1 r3.2.2 fm
  else
   (idx d t3).bind fun v9=>
   (ao (r7.1,(r7.2.1,())) (v9.1,(v9.2.1,()))).bind fun Bi=>
   (ag (Bi.2.1,(Bi.2.2.1,()))).bind fun P1=>
   bif (P1 != 0) then
    some (([]:List ByteArray),(4:Int))
   else
    (ae r3.2.1 z).bind fun vG=>
    (idx vG t3).bind fun _=>
    (ae r3.2.1 z).bind fun wK=>
    (wK[t3.toNat]?).bind fun Fc=>
    let e15:H0:=(gF r3.2.1 z (wK.set t3.toNat (Bi.1.1,(Bi.1.2.1,()))))
    mW b s d z t t2 (IntKind.wrap .i64 (t3+1)) e15 r3.2.2 fm
 else
  bif (!(Nat.beq s 0)) then
  bif (!(Nat.beq s 0)) then
  (ae fm s).bind fun BM=>
  (BM[0]?).bind fun Cu=>
  (ae ai Cu.2.2.1).bind fun BR=>
  qR z Cu.2.2.1 (BR.length:Int) 0 ([]:List lb) ah ai fm
  else none
  else none
theorem DK:ZB fW (wZ fW fX cY oD aj ak):=fun _ _ _ _ _ _ _ _ _ _=>l1 19 0
def w6 (qR:aa fX)(Aa:aa oD)(vR:aa km):aa fX:=fun z t t2 t3 out ah ai fm=>
 bif (decide (t3<t2)) then
  (ae ai t).bind fun v0=>
  (idx v0 t3).bind fun _=>
  (ae ai t).bind fun v1=>
  (v1[t3.toNat]?).bind fun v2=>
  (Aa v2 z ah).bind fun r3=>
  let e4:List lb:=([(r3.1,(r3.2.1,()))]:List lb)
  bif (bj 32 2 out.length 1) then
  qR z t t2 (IntKind.wrap .i64 (t3+1)) (out++e4) ah ai fm
  else none
 else
  (vR out).bind fun r5=>
  some (r5,(0:Int))
theorem DL:E8 fX (w6 fX oD km):=fun _ _ _ _ _ _ _ _=>l1 19 1
def BW (mW:aa fW)(oh:aa cI)(yg:aa ky)(JH:aa oC):aa oB:=fun m b=>
 (oh m).bind fun r0=>
 bif (r0 != 0) then
  some (([]:List ByteArray),r0)
 else
  bif ((b.length:Int) != (m.length:Int)) then
   some (([]:List ByteArray),(10:Int))
  else
   (yg b).bind fun r1=>
   bif (!r1) then
    some (([]:List ByteArray),(1:Int))
   else
    (JH m ([]:H0) ([]:H1) ([]:H2)).bind fun r2=>
    bif (!(Nat.beq r2.1.1 0)) then
    bif (!(Nat.beq r2.1.1 0)) then
    (ae r2.2.2.2 r2.1.1).bind fun v3=>
    (v3[0]?).bind fun v4=>
    (ae r2.2.2.1 v4.2.2.1).bind fun v5=>
    bif (fP 32 (v5.length:Int) (v5.length:Int)) then
    let e6:H0:=(r2.2.1++[some (List.replicate (v5.length:Int).toNat (false,(([]:List Int),())))])
    bif (!(Nat.beq r2.1.1 0)) then
    bif (!(Nat.beq r2.1.1 0)) then
    (ae r2.2.2.2 r2.1.1).bind fun v7=>
    (v7[0]?).bind fun v8=>
    (ae r2.2.2.1 v8.2.1).bind fun v9=>
    mW b r2.1.1 r2.1.2 (r2.2.1.length+1:Nat) v8.2.1 (v9.length:Int) 0 e6 r2.2.2.1 r2.2.2.2
    else none
    else none
    else none
    else none
    else none
theorem IW:E2 oB (BW fW cI ky oC):=fun _ _=>e1 19
def w7 (vS:aa gT)(fe:aa cY)(JI:aa oE)(vR:aa km):aa jR:=fun m=>
 (vS m).bind fun r0=>
 bif (r0 != 0) then
  some (([]:List ByteArray),r0)
 else
  (fe m ([]:H0) ([]:H1)).bind fun r1=>
  (JI r1.1 r1.2.1 r1.2.2).bind fun r2=>
  (vR r2.1).bind fun r3=>
  some (r3,(0:Int))
theorem DM:E1 jR (w7 gT cY oE km):=fun _=>e1 23
def jW (qS:aa dc)(qT:aa cG):aa dc:=fun m t t2 t3=>
 bif (decide (t3<t2)) then
  (idx t t3).bind fun v0=>
  bif (decide ((v0.length:Int)>64)) then
   some 3
  else
   qS m t t2 (IntKind.wrap .i64 (t3+1))
 else
  qT m m (m.length:Int) 0
theorem lK:E4 dc (jW dc cG):=fun _ _ _ _=>l1 33 0
def jX (qT:aa cG)(qU:aa cH):aa cG:=fun m t t2 t3=>
 bif (decide (t3<t2)) then
  (idx t t3).bind fun v0=>
  (idx m 0).bind fun v1=>
  bif ((v0.length:Int) != (v1.length:Int)) then
   some 10
  else
   qT m t t2 (IntKind.wrap .i64 (t3+1))
 else
  qU m (m.length:Int) 0
theorem lL:E4 cG (jX cG cH):=fun _ _ _ _=>l1 33 1
def jY (qU:aa cH)(yg:aa ky):aa cH:=fun t t2 t3=>
 bif (decide (t3<t2)) then
  (idx t t3).bind fun v0=>
  (yg v0).bind fun r1=>
  bif (!r1) then
   some 1
  else
   qU t t2 (IntKind.wrap .i64 (t3+1))
 else
  some 0
theorem lM:E3 cH (jY cH ky):=fun _ _ _=>l1 33 2
def vT (qS:aa dc):aa gT:=fun m=>
 bif (decide ((m.length:Int)>64)) then
  some 3
 else
  qS m m (m.length:Int) 0
theorem Ab:E1 gT (vT dc):=fun _=>e1 33
def oi (vS:aa gT)(fe:aa cY)(au:aa ar):aa cI:=fun m=>
 (vS m).bind fun r0=>
 bif (r0 != 0) then
  some r0
 else
  bif (decide ((m.length:Int)>8)) then
   some 3
  else
   (fe m ([]:H0) ([]:H1)).bind fun r1=>
   (au r1.1 r1.2.1 r1.2.2).bind fun r2=>
   bif (decide (r2.1>8)) then
    some 3
   else
    some 0
theorem sG:E1 cI (oi gT cY ar):=fun _=>e1 49
def lN (gA:aa br):aa b8:=fun g r c ah ai=>
 gA g r c (-1) r ah ai
theorem oo:E5 b8 (lN br):=fun _ _ _ _ _=>l1 52 0
def jh (gA:aa br)(lO:aa b9)(ag:aa aj)(gC:aa dg)(ss:aa eU)(bO:aa aL):aa br:=fun g r c WU i ah ai=>
 (ae ai g).bind fun v0=>
 bif (decide (i<(v0.length:Int))) then
  (ae ai g).bind fun v1=>
  (idx v1 i).bind fun _=>
  (ae ai g).bind fun v2=>
  (v2[i.toNat]?).bind fun v3=>
  (ae ah v3).bind fun v4=>
  (idx v4 c).bind fun _=>
  (ae ah v3).bind fun v5=>
  (v5[c.toNat]?).bind fun v6=>
  (ag (v6.1,(v6.2.1,()))).bind fun r7=>
  bif (r7 != 0) then
   bif (decide (WU<0)) then
    gA g r c i (IntKind.wrap .i64 (i+1)) ah ai
   else
    (ae ai g).bind fun v8=>
    (idx v8 i).bind fun _=>
    (ae ai g).bind fun v9=>
    (v9[i.toNat]?).bind fun v10=>
    (ae ah v10).bind fun v11=>
    (idx v11 c).bind fun _=>
    (ae ah v10).bind fun vG=>
    (vG[c.toNat]?).bind fun wK=>
    (gC (wK.1,(wK.2.1,()))).bind fun Hh=>
    (ae ai g).bind fun yW=>
    (idx yW WU).bind fun _=>
    (ae ai g).bind fun BM=>
    (BM[WU.toNat]?).bind fun Cu=>
    (ae ah Cu).bind fun BR=>
    (idx BR c).bind fun _=>
    (ae ah Cu).bind fun P0=>
    (P0[c.toNat]?).bind fun v20=>
    (gC (v20.1,(v20.2.1,()))).bind fun Bj=>
    (ss (Hh.1,(Hh.2.1,())) (Bj.1,(Bj.2.1,()))).bind fun JJ=>
    bif (decide (JJ<0)) then
     gA g r c i (IntKind.wrap .i64 (i+1)) ah ai
    else
     gA g r c WU (IntKind.wrap .i64 (i+1)) ah ai
  else
   gA g r c WU (IntKind.wrap .i64 (i+1)) ah ai
 else
  bif (decide (WU<0)) then
   some (false,(ah,ai))
  else
   (bO g WU r ah ai).bind fun ZF=>
   lO g r c true (IntKind.wrap .i64 (r+1)) ZF.2.1 ZF.2.2
theorem kE:E7 br (jh br b9 aj dg eU aL):=fun _ _ _ _ _ _ _=>l1 52 1
def lP (lO:aa b9)(po:aa b8)(ao:aa ak)(aA:aa az)(dT:aa ca)(ag:aa aj):aa b9:=fun g r c done i ah ai=>
 (ae ai g).bind fun v0=>
 bif (decide (i<(v0.length:Int))) then
  (ae ai g).bind fun v1=>
  (idx v1 i).bind fun _=>
  (ae ai g).bind fun v2=>
  (v2[i.toNat]?).bind fun v3=>
  (ae ah v3).bind fun v4=>
  (idx v4 c).bind fun _=>
  (ae ah v3).bind fun v5=>
  (v5[c.toNat]?).bind fun v6=>
  (ae ai g).bind fun v7=>
  (idx v7 r).bind fun _=>
  (ae ai g).bind fun v8=>
  (v8[r.toNat]?).bind fun v9=>
  (ae ah v9).bind fun v10=>
  (idx v10 c).bind fun _=>
  (ae ah v9).bind fun v11=>
  (v11[c.toNat]?).bind fun vG=>
  (ao (v6.1,(v6.2.1,())) (vG.1,(vG.2.1,()))).bind fun Hf=>
  (aA (Hf.1.1,(Hf.1.2.1,()))).bind fun Hh=>
  (dT g i r (Hh.1,(Hh.2.1,())) ah ai).bind fun LS=>
  bif done then
   (ag (Hf.2.1,(Hf.2.2.1,()))).bind fun Hg=>
   lO g r c (Hg==0) (IntKind.wrap .i64 (i+1)) LS.2.1 LS.2.2
  else
   lO g r c false (IntKind.wrap .i64 (i+1)) LS.2.1 LS.2.2
 else
  bif done then
   some (true,(ah,ai))
  else
   po g r c ah ai
theorem oq:E7 b9 (lP b9 b8 ak az ca aj):=fun _ _ _ _ _ _ _=>l1 52 2
def uc (po:aa b8):aa iM:=fun g r c ah ai=>
 po g r c ah ai
theorem yH:E5 iM (uc b8):=fun _ _ _ _ _=>e1 52
def mX (qV:aa eW)(Ff:aa ig):aa eW:=fun t t2 t3 out ah ai=>
 bif (decide (t3<t2)) then
  (ae ai t).bind fun v0=>
  (idx v0 t3).bind fun _=>
  (ae ai t).bind fun v1=>
  (v1[t3.toNat]?).bind fun v2=>
  (Ff v2 ah).bind fun r3=>
  (idx out t3).bind fun _=>
  (out[t3.toNat]?).bind fun v4=>
  qV t t2 (IntKind.wrap .i64 (t3+1)) (out.set t3.toNat r3) ah ai
 else
  some out
theorem pq:E6 eW (mX eW ig):=fun _ _ _ _ _ _=>l1 58 0
def vU (qV:aa eW):aa kl:=fun g ah ai=>
 (ae ai g).bind fun v0=>
 bif (fP 24 (v0.length:Int) (v0.length:Int)) then
 let e1:List (List ByteArray):=(List.replicate (v0.length:Int).toNat ([]:List ByteArray))
 (ae ai g).bind fun v2=>
 qV g (v2.length:Int) 0 e1 ah ai
 else none
theorem Ac:E3 kl (vU eW):=fun _ _ _=>e1 58
def iH (su:aa fH):aa fH:=fun t t2 t3=>
 bif (decide (t3<t2)) then
  (idx t t3).bind fun v0=>
  bif (decide (v0<(-1000000))) then
   some false
  else
   bif (decide (v0>1000000)) then
    some false
   else
    su t t2 (IntKind.wrap .i64 (t3+1))
 else
  some true
theorem jZ:E3 fH (iH fH):=fun _ _ _=>l1 60 0
def yi (su:aa fH):aa ky:=fun row=>
 su row (row.length:Int) 0
theorem BY:E1 ky (yi fH):=fun _=>e1 60
def w8 (mY:aa fZ):aa fY:=fun s t t2 out ah ai fm=>
 bif (decide (t2<t)) then
  mY s t2 t t2 out ah ai fm
 else
  some ((s,out),(ah,ai,fm))
theorem DN:E7 fY (w8 fZ):=fun _ _ _ _ _ _ _=>l1 61 0
def w9 (mY:aa fZ)(j5:aa fY)(Bl:aa gz)(Ad:aa fD)(yj:aa eN)(l5:aa l3)(ji:aa dx)(ag:aa aj)(lJ:aa dE):aa fZ:=fun s k t t2 out ah ai fm=>
 (Bl s k ah ai fm).bind fun r0=>
 bif r0.1 then
  (Ad s k r0.2.1 r0.2.2.1 r0.2.2.2).bind fun r1=>
  bif (!r1.1) then
   mY s k t t2 out r1.2.1 r1.2.2.1 r1.2.2.2
  else
   (yj s k r1.2.1 r1.2.2.1 r1.2.2.2).bind fun r2=>
   bif (decide (r2.1≥0)) then
    (l5 1).bind fun r3=>
    (ji s k r2.1 (r3.1,(r3.2.1,())) r2.2.1 r2.2.2.1 r2.2.2.2).bind fun r4=>
    mY s k t t2 out r4.2.1 r4.2.2.1 r4.2.2.2
   else
    bif (!(Nat.beq s 0)) then
    bif (!(Nat.beq s 0)) then
    (ae r2.2.2.2 s).bind fun v5=>
    (v5[0]?).bind fun v6=>
    (ae r2.2.2.1 v6.1).bind fun v7=>
    (idx v7 k).bind fun _=>
    (ae r2.2.2.1 v6.1).bind fun v8=>
    (v8[k.toNat]?).bind fun v9=>
    (ae r2.2.1 v9).bind fun v10=>
    (idx v10 k).bind fun _=>
    (ae r2.2.1 v9).bind fun v11=>
    (v11[k.toNat]?).bind fun vG=>
    (ag (vG.1,(vG.2.1,()))).bind fun Hf=>
    bif (decide (Hf<0)) then
     bif (!(Nat.beq s 0)) then
     bif (!(Nat.beq s 0)) then
     (ae r2.2.2.2 s).bind fun Fc=>
     (Fc[0]?).bind fun yW=>
     (lJ yW.1 k r2.2.1 r2.2.2.1).bind fun Hg=>
     bif (!(Nat.beq s 0)) then
     bif (!(Nat.beq s 0)) then
     (ae r2.2.2.2 s).bind fun Cu=>
     (Cu[0]?).bind fun BR=>
     (lJ BR.2.1 k Hg.2.1 Hg.2.2).bind fun vJ=>
     bif (!(Nat.beq s 0)) then
     bif (!(Nat.beq s 0)) then
     (ae r2.2.2.2 s).bind fun v20=>
     (v20[0]?).bind fun YW=>
     (ae vJ.2.2 YW.1).bind fun WW=>
     (idx WW k).bind fun _=>
     (ae vJ.2.2 YW.1).bind fun v23=>
     (v23[k.toNat]?).bind fun ZD=>
     (ae vJ.2.1 ZD).bind fun v25=>
     (idx v25 k).bind fun _=>
     (ae vJ.2.1 ZD).bind fun v26=>
     (v26[k.toNat]?).bind fun v27=>
     let e28:List lb:=([(v27.1,(v27.2.1,()))]:List lb)
     bif (bj 32 2 out.length 1) then
     j5 s t (IntKind.wrap .i64 (t2+1)) (out++e28) vJ.2.1 vJ.2.2 r2.2.2.2
     else none
     else none
     else none
     else none
     else none
     else none
     else none
    else
     bif (!(Nat.beq s 0)) then
     bif (!(Nat.beq s 0)) then
     (ae r2.2.2.2 s).bind fun v29=>
     (v29[0]?).bind fun v30=>
     (ae r2.2.2.1 v30.1).bind fun v31=>
     (idx v31 k).bind fun _=>
     (ae r2.2.2.1 v30.1).bind fun v32=>
     (v32[k.toNat]?).bind fun v33=>
     (ae r2.2.1 v33).bind fun v34=>
     (idx v34 k).bind fun _=>
     (ae r2.2.1 v33).bind fun v35=>
     (v35[k.toNat]?).bind fun v36=>
     let e37:List lb:=([(v36.1,(v36.2.1,()))]:List lb)
     bif (bj 32 2 out.length 1) then
     j5 s t (IntKind.wrap .i64 (t2+1)) (out++e37) r2.2.1 r2.2.2.1 r2.2.2.2
     else none
     else none
     else none
    else none
    else none
 else
  j5 s t (IntKind.wrap .i64 (t2+1)) out r0.2.1 r0.2.2.1 r0.2.2.2
theorem DO:E8 fZ (w9 fZ fY gz fD eN l3 dx aj dE):=fun _ _ _ _ _ _ _ _=>l1 61 1
def BZ (j5:aa fY)(fe:aa cY)(IX:aa wH)(au:aa ar):aa oC:=fun m ah ai fm=>
 (fe m ah ai).bind fun r0=>
 (ae r0.2.2 r0.1).bind fun v1=>
 (IX (v1.length:Int) r0.2.1 r0.2.2).bind fun r2=>
 (au r0.1 r2.2.1 r2.2.2).bind fun r3=>
 (IX r3.1 r3.2.1 r3.2.2).bind fun r4=>
 (ae r4.2.2 r0.1).bind fun v5=>
 (au r0.1 r4.2.1 r4.2.2).bind fun r6=>
 let e7:Int:=(bif decide (r6.1<(v5.length:Int)) then r6.1 else (v5.length:Int))
 j5 (fm.length+1:Nat) e7 0 ([]:List lb) r6.2.1 r6.2.2 (fm++[some [(r0.1,(r2.1,(r4.1,())))]])
theorem IY:E4 oC (BZ fY cY wH ar):=fun _ _ _ _=>e1 61
def Ae (ud:aa iN)(dG:aa cp)(eg:aa bp):aa iN:=fun b t t2 t3 t4 t5 sum WV ah=>
 bif (decide (t3<t2)) then
  (ae ah t).bind fun v0=>
  (idx v0 t3).bind fun _=>
  (ae ah t).bind fun v1=>
  (v1[t3.toNat]?).bind fun v2=>
  (ae ah b).bind fun v3=>
  (idx v3 t3).bind fun _=>
  (ae ah b).bind fun v4=>
  (v4[t3.toNat]?).bind fun v5=>
  (dG (v2.1,(v2.2.1,())) (v5.1,(v5.2.1,()))).bind fun r6=>
  (eg (sum,(WV,())) (r6.1,(r6.2.1,()))).bind fun r7=>
  ud b t t2 (IntKind.wrap .i64 (t3+1)) t4 t5 r7.1 r7.2.1 ah
 else
  some (sum,(WV,()))
theorem GU:E9 iN (Ae iN cp bp):=fun _ _ _ _ _ _ _ _ _=>l1 62 0
def Ga (ud:aa iN):aa oD:=fun a b ah=>
 (ae ah a).bind fun v0=>
 ud b a (v0.length:Int) 0 false ([]:List Int) false ([]:List Int) ah
theorem L4:E3 oD (Ga iN):=fun _ _ _=>e1 62
def xa (qW:aa gd)(qX:aa eX):aa gd:=fun t t2 t3 out=>
 bif (decide (t3<t2)) then
  (idx t t3).bind fun v0=>
  (qX (v0.1,(v0.2.1,()))).bind fun r1=>
  bif (bj 16 1 out.length 1) then
  qW t t2 (IntKind.wrap .i64 (t3+1)) (out++([r1]:List ByteArray))
  else none
 else
  some out
theorem DP:E4 gd (xa gd eX):=fun _ _ _ _=>l1 63 0
def B0 (qW:aa gd):aa km:=fun l=>
 qW l (l.length:Int) 0 ([]:List ByteArray)
theorem IZ:E1 km (B0 gd):=fun _=>e1 63
def pr (dN:aa cU)(bO:aa aL)(cg:aa aW):aa cS:=fun s k row column i ah ai fm=>
 bif (!(Nat.beq s 0)) then
 bif (!(Nat.beq s 0)) then
 (ae fm s).bind fun v0=>
 (v0[0]?).bind fun v1=>
 (ae ai v1.1).bind fun v2=>
 bif (decide (i<(v2.length:Int))) then
  dN s k row column i k ah ai fm
 else
  bif (decide (row<0)) then
   some (false,(ah,ai,fm))
  else
   bif (!(Nat.beq s 0)) then
   bif (!(Nat.beq s 0)) then
   (ae fm s).bind fun v3=>
   (v3[0]?).bind fun v4=>
   (bO v4.1 row k ah ai).bind fun r5=>
   bif (!(Nat.beq s 0)) then
   bif (!(Nat.beq s 0)) then
   (ae fm s).bind fun v6=>
   (v6[0]?).bind fun v7=>
   (bO v7.2.1 row k r5.2.1 r5.2.2).bind fun r8=>
   bif (!(Nat.beq s 0)) then
   bif (!(Nat.beq s 0)) then
   (ae fm s).bind fun v9=>
   (v9[0]?).bind fun v10=>
   (cg v10.1 column k r8.2.1 r8.2.2).bind fun P1=>
   bif (!(Nat.beq s 0)) then
   bif (!(Nat.beq s 0)) then
   (ae fm s).bind fun vG=>
   (vG[0]?).bind fun wK=>
   (cg wK.2.2.1 column k P1.2.1 P1.2.2).bind fun Hh=>
   some (true,(Hh.2.1,Hh.2.2,fm))
   else none
   else none
   else none
   else none
   else none
   else none
   else none
   else none
 else none
 else none
theorem xb:E8 cS (pr cU aL aW):=fun _ _ _ _ _ _ _ _=>l1 93 0
def pz (dN:aa cU)(kF:aa cS)(au:aa ar)(ag:aa aj)(gC:aa dg)(ss:aa eU):aa cU:=fun s k row column i c ah ai fm=>
 bif (!(Nat.beq s 0)) then
 bif (!(Nat.beq s 0)) then
 (ae fm s).bind fun v0=>
 (v0[0]?).bind fun v1=>
 (au v1.1 ah ai).bind fun r2=>
 bif (decide (c<r2.1)) then
  bif (!(Nat.beq s 0)) then
  bif (!(Nat.beq s 0)) then
  (ae fm s).bind fun v3=>
  (v3[0]?).bind fun v4=>
  (ae r2.2.2 v4.1).bind fun v5=>
  (idx v5 i).bind fun _=>
  (ae r2.2.2 v4.1).bind fun v6=>
  (v6[i.toNat]?).bind fun v7=>
  (ae r2.2.1 v7).bind fun v8=>
  (idx v8 c).bind fun _=>
  (ae r2.2.1 v7).bind fun v9=>
  (v9[c.toNat]?).bind fun v10=>
  (ag (v10.1,(v10.2.1,()))).bind fun P1=>
  bif (P1 != 0) then
   bif (decide (row<0)) then
    dN s k i c i (IntKind.wrap .i64 (c+1)) r2.2.1 r2.2.2 fm
   else
    (gC (v10.1,(v10.2.1,()))).bind fun Ct=>
    bif (!(Nat.beq s 0)) then
    bif (!(Nat.beq s 0)) then
    (ae fm s).bind fun wK=>
    (wK[0]?).bind fun Fc=>
    (ae r2.2.2 Fc.1).bind fun yW=>
    (idx yW row).bind fun _=>
    (ae r2.2.2 Fc.1).bind fun BM=>
    (BM[row.toNat]?).bind fun Cu=>
    (ae r2.2.1 Cu).bind fun BR=>
    (idx BR column).bind fun _=>
    (ae r2.2.1 Cu).bind fun P0=>
    (P0[column.toNat]?).bind fun v20=>
    (gC (v20.1,(v20.2.1,()))).bind fun Bj=>
    (ss (Ct.1,(Ct.2.1,())) (Bj.1,(Bj.2.1,()))).bind fun JJ=>
    bif (decide (JJ<0)) then
     dN s k i c i (IntKind.wrap .i64 (c+1)) r2.2.1 r2.2.2 fm
    else
     dN s k row column i (IntKind.wrap .i64 (c+1)) r2.2.1 r2.2.2 fm
    else none
    else none
  else
   dN s k row column i (IntKind.wrap .i64 (c+1)) r2.2.1 r2.2.2 fm
  else none
  else none
 else
  kF s k row column (IntKind.wrap .i64 (i+1)) r2.2.1 r2.2.2 fm
 else none
 else none
theorem xc:E9 cU (pz cU cS ar aj dg eU):=fun _ _ _ _ _ _ _ _ _=>l1 93 1
def sH (kF:aa cS):aa gz:=fun s k ah ai fm=>
 kF s k (-1) (-1) k ah ai fm
theorem Af:E5 gz (sH cS):=fun _ _ _ _ _=>e1 93
def oG (cK:aa cw)(cL:aa cy)(ao:aa ak)(ag:aa aj)(aA:aa az)(ji:aa dx):aa cw:=fun s k done i ah ai fm=>
 bif (!(Nat.beq s 0)) then
 bif (!(Nat.beq s 0)) then
 (ae fm s).bind fun v0=>
 (v0[0]?).bind fun v1=>
 (ae ai v1.1).bind fun v2=>
 bif (decide (i<(v2.length:Int))) then
  bif (!(Nat.beq s 0)) then
  bif (!(Nat.beq s 0)) then
  (ae fm s).bind fun v3=>
  (v3[0]?).bind fun v4=>
  (ae ai v4.1).bind fun v5=>
  (idx v5 i).bind fun _=>
  (ae ai v4.1).bind fun v6=>
  (v6[i.toNat]?).bind fun v7=>
  (ae ah v7).bind fun v8=>
  (idx v8 k).bind fun _=>
  (ae ah v7).bind fun v9=>
  (v9[k.toNat]?).bind fun v10=>
  bif (!(Nat.beq s 0)) then
  bif (!(Nat.beq s 0)) then
  (ae fm s).bind fun v11=>
  (v11[0]?).bind fun vG=>
  (ae ai vG.1).bind fun wK=>
  (idx wK k).bind fun _=>
  (ae ai vG.1).bind fun Fc=>
  (Fc[k.toNat]?).bind fun yW=>
  (ae ah yW).bind fun BM=>
  (idx BM k).bind fun _=>
  (ae ah yW).bind fun Cu=>
  (Cu[k.toNat]?).bind fun BR=>
  (ao (v10.1,(v10.2.1,())) (BR.1,(BR.2.1,()))).bind fun vJ=>
  (ag (vJ.1.1,(vJ.1.2.1,()))).bind fun LW=>
  bif (LW != 0) then
   (aA (vJ.1.1,(vJ.1.2.1,()))).bind fun Bj=>
   (ji s i k (Bj.1,(Bj.2.1,())) ah ai fm).bind fun JJ=>
   bif done then
    (ag (vJ.2.1,(vJ.2.2.1,()))).bind fun ZF=>
    cK s k (ZF==0) (IntKind.wrap .i64 (i+1)) JJ.2.1 JJ.2.2.1 JJ.2.2.2
   else
    cK s k false (IntKind.wrap .i64 (i+1)) JJ.2.1 JJ.2.2.1 JJ.2.2.2
  else
   (ag (vJ.2.1,(vJ.2.2.1,()))).bind fun r24=>
   bif (r24 != 0) then
    (aA (vJ.1.1,(vJ.1.2.1,()))).bind fun V2=>
    (ji s i k (V2.1,(V2.2.1,())) ah ai fm).bind fun OV=>
    bif done then
     (ag (vJ.2.1,(vJ.2.2.1,()))).bind fun ZE=>
     cK s k (ZE==0) (IntKind.wrap .i64 (i+1)) OV.2.1 OV.2.2.1 OV.2.2.2
    else
     cK s k false (IntKind.wrap .i64 (i+1)) OV.2.1 OV.2.2.1 OV.2.2.2
   else
    cK s k done (IntKind.wrap .i64 (i+1)) ah ai fm
  else none
  else none
  else none
  else none
 else
  cL s k done (IntKind.wrap .i64 (k+1)) ah ai fm
 else none
 else none
theorem vV:E7 cw (oG cw cy ak aj az dx):=fun _ _ _ _ _ _ _=>l1 94 0
def oH (cL:aa cy)(au:aa ar)(ao:aa ak)(ag:aa aj)(aA:aa az)(oI:aa dV):aa cy:=fun s k done c ah ai fm=>
 bif (!(Nat.beq s 0)) then
 bif (!(Nat.beq s 0)) then
 (ae fm s).bind fun v0=>
 (v0[0]?).bind fun v1=>
 (au v1.1 ah ai).bind fun r2=>
 bif (decide (c<r2.1)) then
  bif (!(Nat.beq s 0)) then
  bif (!(Nat.beq s 0)) then
  (ae fm s).bind fun v3=>
  (v3[0]?).bind fun v4=>
  (ae r2.2.2 v4.1).bind fun v5=>
  (idx v5 k).bind fun _=>
  (ae r2.2.2 v4.1).bind fun v6=>
  (v6[k.toNat]?).bind fun v7=>
  (ae r2.2.1 v7).bind fun v8=>
  (idx v8 c).bind fun _=>
  (ae r2.2.1 v7).bind fun v9=>
  (v9[c.toNat]?).bind fun v10=>
  bif (!(Nat.beq s 0)) then
  bif (!(Nat.beq s 0)) then
  (ae fm s).bind fun v11=>
  (v11[0]?).bind fun vG=>
  (ae r2.2.2 vG.1).bind fun wK=>
  (idx wK k).bind fun _=>
  (ae r2.2.2 vG.1).bind fun Fc=>
  (Fc[k.toNat]?).bind fun yW=>
  (ae r2.2.1 yW).bind fun BM=>
  (idx BM k).bind fun _=>
  (ae r2.2.1 yW).bind fun Cu=>
  (Cu[k.toNat]?).bind fun BR=>
  (ao (v10.1,(v10.2.1,())) (BR.1,(BR.2.1,()))).bind fun vJ=>
  (ag (vJ.1.1,(vJ.1.2.1,()))).bind fun LW=>
  bif (LW != 0) then
   (aA (vJ.1.1,(vJ.1.2.1,()))).bind fun Bj=>
   (oI s c k (Bj.1,(Bj.2.1,())) r2.2.1 r2.2.2 fm).bind fun JJ=>
   bif done then
    (ag (vJ.2.1,(vJ.2.2.1,()))).bind fun ZF=>
    cL s k (ZF==0) (IntKind.wrap .i64 (c+1)) JJ.2.1 JJ.2.2.1 JJ.2.2.2
   else
    cL s k false (IntKind.wrap .i64 (c+1)) JJ.2.1 JJ.2.2.1 JJ.2.2.2
  else
   (ag (vJ.2.1,(vJ.2.2.1,()))).bind fun r24=>
   bif (r24 != 0) then
    (aA (vJ.1.1,(vJ.1.2.1,()))).bind fun V2=>
    (oI s c k (V2.1,(V2.2.1,())) r2.2.1 r2.2.2 fm).bind fun OV=>
    bif done then
     (ag (vJ.2.1,(vJ.2.2.1,()))).bind fun ZE=>
     cL s k (ZE==0) (IntKind.wrap .i64 (c+1)) OV.2.1 OV.2.2.1 OV.2.2.2
    else
     cL s k false (IntKind.wrap .i64 (c+1)) OV.2.1 OV.2.2.1 OV.2.2.2
   else
    cL s k done (IntKind.wrap .i64 (c+1)) r2.2.1 r2.2.2 fm
  else none
  else none
  else none
  else none
 else
  some (done,(r2.2.1,r2.2.2,fm))
 else none
 else none
theorem vW:E7 cy (oH cy ar ak aj az dV):=fun _ _ _ _ _ _ _=>l1 94 1
def rO (cK:aa cw):aa fD:=fun s k ah ai fm=>
 cK s k true (IntKind.wrap .i64 (k+1)) ah ai fm
theorem yY:E5 fD (rO cw):=fun _ _ _ _ _=>e1 94
def nk (iE:aa bK):aa bJ:=fun s k row i ah ai fm=>
 bif (!(Nat.beq s 0)) then
 bif (!(Nat.beq s 0)) then
 (ae fm s).bind fun v0=>
 (v0[0]?).bind fun v1=>
 (ae ai v1.1).bind fun v2=>
 bif (decide (i<(v2.length:Int))) then
  iE s k row i (IntKind.wrap .i64 (k+1)) ah ai fm
 else
  some (row,(ah,ai,fm))
 else none
 else none
theorem uf:E7 bJ (nk bK):=fun _ _ _ _ _ _ _=>l1 95 0
def np (iE:aa bK)(iF:aa bJ)(au:aa ar)(ao:aa ak)(ag:aa aj):aa bK:=fun s k row i c ah ai fm=>
 bif (!(Nat.beq s 0)) then
 bif (!(Nat.beq s 0)) then
 (ae fm s).bind fun v0=>
 (v0[0]?).bind fun v1=>
 (au v1.1 ah ai).bind fun r2=>
 bif (decide (c<r2.1)) then
  bif (!(Nat.beq s 0)) then
  bif (!(Nat.beq s 0)) then
  (ae fm s).bind fun v3=>
  (v3[0]?).bind fun v4=>
  (ae r2.2.2 v4.1).bind fun v5=>
  (idx v5 i).bind fun _=>
  (ae r2.2.2 v4.1).bind fun v6=>
  (v6[i.toNat]?).bind fun v7=>
  (ae r2.2.1 v7).bind fun v8=>
  (idx v8 c).bind fun _=>
  (ae r2.2.1 v7).bind fun v9=>
  (v9[c.toNat]?).bind fun v10=>
  bif (!(Nat.beq s 0)) then
  bif (!(Nat.beq s 0)) then
  (ae fm s).bind fun v11=>
  (v11[0]?).bind fun vG=>
  (ae r2.2.2 vG.1).bind fun wK=>
  (idx wK k).bind fun _=>
  (ae r2.2.2 vG.1).bind fun Fc=>
  (Fc[k.toNat]?).bind fun yW=>
  (ae r2.2.1 yW).bind fun BM=>
  (idx BM k).bind fun _=>
  (ae r2.2.1 yW).bind fun Cu=>
  (Cu[k.toNat]?).bind fun BR=>
  (ao (v10.1,(v10.2.1,())) (BR.1,(BR.2.1,()))).bind fun vJ=>
  (ag (vJ.2.1,(vJ.2.2.1,()))).bind fun LW=>
  bif (LW != 0) then
   some (i,(r2.2.1,r2.2.2,fm))
  else
   iE s k row i (IntKind.wrap .i64 (c+1)) r2.2.1 r2.2.2 fm
  else none
  else none
  else none
  else none
 else
  iF s k row (IntKind.wrap .i64 (i+1)) r2.2.1 r2.2.2 fm
 else none
 else none
theorem ug:E8 bK (np bK bJ ar ak aj):=fun _ _ _ _ _ _ _ _=>l1 95 1
def pA (iF:aa bJ):aa eN:=fun s k ah ai fm=>
 iF s k (-1) (IntKind.wrap .i64 (k+1)) ah ai fm
theorem xd:E5 eN (pA bJ):=fun _ _ _ _ _=>e1 95
def rP (dT:aa ca):aa dx:=fun s i j k ah ai fm=>
 bif (!(Nat.beq s 0)) then
 bif (!(Nat.beq s 0)) then
 (ae fm s).bind fun v0=>
 (v0[0]?).bind fun v1=>
 (dT v1.1 i j (k.1,(k.2.1,())) ah ai).bind fun r2=>
 bif (!(Nat.beq s 0)) then
 bif (!(Nat.beq s 0)) then
 (ae fm s).bind fun v3=>
 (v3[0]?).bind fun v4=>
 (dT v4.2.1 i j (k.1,(k.2.1,())) r2.2.1 r2.2.2).bind fun r5=>
 some ((),(r5.2.1,r5.2.2,fm))
 else none
 else none
 else none
 else none
theorem yZ:E7 dx (rP ca):=fun _ _ _ _ _ _ _=>e1 96
def oJ (jg:aa dA):aa dV:=fun s i j k ah ai fm=>
 bif (!(Nat.beq s 0)) then
 bif (!(Nat.beq s 0)) then
 (ae fm s).bind fun v0=>
 (v0[0]?).bind fun v1=>
 (jg v1.1 i j (k.1,(k.2.1,())) ah ai).bind fun r2=>
 bif (!(Nat.beq s 0)) then
 bif (!(Nat.beq s 0)) then
 (ae fm s).bind fun v3=>
 (v3[0]?).bind fun v4=>
 (jg v4.2.2.1 i j (k.1,(k.2.1,())) r2.2.1 r2.2.2).bind fun r5=>
 some ((),(r5.2.1,r5.2.2,fm))
 else none
 else none
 else none
 else none
theorem vX:E7 dV (oJ dA):=fun _ _ _ _ _ _ _=>e1 121
def jJ (nG:aa dn)(qX:aa eX):aa dn:=fun t t2 t3 out ah=>
 bif (decide (t3<t2)) then
  (ae ah t).bind fun v0=>
  (idx v0 t3).bind fun _=>
  (ae ah t).bind fun v1=>
  (v1[t3.toNat]?).bind fun v2=>
  (qX (v2.1,(v2.2.1,()))).bind fun r3=>
  bif (bj 16 1 out.length 1) then
  nG t t2 (IntKind.wrap .i64 (t3+1)) (out++([r3]:List ByteArray)) ah
  else none
 else
  some out
theorem mc:E5 dn (jJ dn eX):=fun _ _ _ _ _=>l1 100063 0
def qY (nG:aa dn):aa ig:=fun l ah=>
 (ae ah l).bind fun v0=>
 nG l (v0.length:Int) 0 ([]:List ByteArray) ah
theorem va:E2 ig (qY dn):=fun _ _=>e1 100063
end
noncomputable section
end
noncomputable section
end
noncomputable section
def jk (ot:aa eM)(kG:aa gZ)(il:aa dI)(vb:aa kT)(nX:aa eT)(rQ:aa fC)(vc:aa kU)(vd:aa kV):aa fB:=fun m=>
 (ot m).bind fun r0=>
 bif (r0==0) then
  bif (decide ((m.length:Int)>6)) then
   kG.bind fun r1=>
   some r1
  else
   (il m).bind fun r2=>
   bif (decide (r2>6)) then
    kG.bind fun r3=>
    some r3
   else
    (vb m).bind fun r4=>
    (nX r4).bind fun r5=>
    (rQ m).bind fun r6=>
    (vc r5.1 r6.1).bind fun r7=>
    bif r7 then
     bif (r5.2==r6.2) then
      (vd r4 m).bind fun r8=>
      bif r8 then
       kG.bind fun r9=>
       some r9
      else
       some false
     else
      some false
    else
     some false
 else
  (vb m).bind fun Bi=>
  (nX Bi).bind fun P1=>
  (rQ m).bind fun Ct=>
  (vc P1.1 Ct.1).bind fun Hf=>
  bif Hf then
   bif (P1.2==Ct.2) then
    (vd Bi m).bind fun Hh=>
    bif Hh then
     kG.bind fun LS=>
     some LS
    else
     some false
   else
    some false
  else
   some false
theorem oT:E1 fB (jk eM gZ dI kT eT fC kU kV):=fun _=>e1 3
def uh (GV:aa nM)(xe:aa jR)(nX:aa eT)(JK:aa oB)(nY:aa ld):Option Bool:=
 GV.bind fun r0=>
 (xe r0).bind fun r1=>
 let e2:List (List Int):=([([2,(0:Int)]:List Int),([0,(3:Int)]:List Int)]:List (List Int))
 (xe e2).bind fun r3=>
 let e4:List (List Int):=([([2,(3:Int)]:List Int),([4,(4:Int)]:List Int)]:List (List Int))
 (nX e4).bind fun r5=>
 let e6:List (List Int):=([([4,(6:Int)]:List Int)]:List (List Int))
 (JK e6 ([3]:List Int)).bind fun r7=>
 let e8:List ByteArray:=([(bs [50]),(bs [50]),(bs [49,53,54])]:List ByteArray)
 (nY r1.1 r1.2 e8).bind fun r9=>
 bif r9 then
  (nY r3.1 r3.2 ([(bs [49]),(bs [54])]:List ByteArray)).bind fun Bi=>
  bif Bi then
   bif (r5.2==0) then
    bif ((r5.1.length:Int)==2) then
     (idx r5.1 0).bind fun v11=>
     (nY v11 r5.2 ([(bs [50]),(bs [49])]:List ByteArray)).bind fun Ct=>
     bif Ct then
      (idx r5.1 1).bind fun wK=>
      (nY wK r5.2 ([(bs [48]),(bs [50])]:List ByteArray)).bind fun Hh=>
      bif Hh then
       some (r7.2==4)
      else
       some false
     else
      some false
    else
     some false
   else
    some false
  else
   some false
 else
  some false
theorem Bm:gZ=uh nM jR eT oB ld:=(LR T B lf 13 ()).trans (by kernel_rfl)
def yI:Option (List (List Int)):=
 let e0:List (List Int):=([([2,(4:Int),(4:Int)]:List Int),([(-6),(6:Int),(12:Int)]:List Int),([10,(4:Int),(16:Int)]:List Int)]:List (List Int))
 some e0
theorem Fg:nM=yI:=(LR T B lf 47 ()).trans (by kernel_rfl)
def yJ (pB:aa eb):aa ld:=fun l e want=>
 (pB l want).bind fun r0=>
 bif r0 then
  some (e==0)
 else
  some false
theorem Fh:E3 ld (yJ eb):=fun _ _ _=>e1 48
end
noncomputable section
def ve:aa kW:=fun a=>
 bif (bj 8 1 0 a.length) then
 some (([]:List Int)++a)
 else none
theorem Cy:E1 kW ve:=fun _=>e1 36
def me (mf:aa eC):aa eC:=fun a b i=>
 bif (decide (i<(a.length:Int))) then
  (idx a i).bind fun v0=>
  (idx b i).bind fun v1=>
  bif (v0 != v1) then
   some false
  else
   mf a b (IntKind.wrap .i64 (i+1))
 else
  some true
theorem pX:E3 eC (me eC):=fun _ _ _=>l1 59 0
def vf (mf:aa eC):aa kY:=fun a b=>
 bif ((a.length:Int) != (b.length:Int)) then
  some false
 else
  mf a b 0
theorem Cz:E2 kY (vf eC):=fun _ _=>e1 59
end
noncomputable section
def jl (mg:aa cW):aa cW:=fun a b i=>
 bif (decide (i<(a.length:Int))) then
  (idx a i).bind fun v0=>
  (idx b i).bind fun v1=>
  bif (!(v0.toList==v1.toList)) then
   some false
  else
   mg a b (IntKind.wrap .i64 (i+1))
 else
  some true
theorem lj:E3 cW (jl cW):=fun _ _ _=>l1 25 0
def pC (mg:aa cW):aa eb:=fun a b=>
 bif ((a.length:Int) != (b.length:Int)) then
  some false
 else
  mg a b 0
theorem ui:E2 eb (pC cW):=fun _ _=>e1 25
def ll (ln:aa dQ)(lq:aa di):aa bN:=fun p x q y i out=>
 bif (decide (i<(x.length:Int))) then
  ln p x q y i 0 out
 else
  lq p q 0 out
theorem pD:E6 bN (ll dQ di):=fun _ _ _ _ _ _=>l1 66 0
def lr (ln:aa dQ)(iw:aa bN):aa dQ:=fun p x q y i k out=>
 bif (decide (k<(y.length:Int))) then
  (idx out (IntKind.wrap .i64 (i+k))).bind fun _=>
  (out[(IntKind.wrap .i64 (i+k)).toNat]?).bind fun v0=>
  (idx x i).bind fun v1=>
  (idx y k).bind fun v2=>
  let e3:Int:=(IntKind.wrap .i64 (v0+(IntKind.wrap .i64 (v1*v2))))
  (idx out (IntKind.wrap .i64 (i+k))).bind fun _=>
  (out[(IntKind.wrap .i64 (i+k)).toNat]?).bind fun v4=>
  ln p x q y i (IntKind.wrap .i64 (k+1)) (out.set (IntKind.wrap .i64 (i+k)).toNat e3)
 else
  iw p x q y (IntKind.wrap .i64 (i+1)) out
theorem pE:E7 dQ (lr dQ bN):=fun _ _ _ _ _ _ _=>l1 66 1
def lu (lq:aa di)(aI:aa aw):aa di:=fun p q i out=>
 bif (decide ((IntKind.wrap .i64 (i+1))<(out.length:Int))) then
  (idx out (IntKind.wrap .i64 (i+1))).bind fun _=>
  (out[(IntKind.wrap .i64 (i+1)).toNat]?).bind fun v0=>
  (idx out i).bind fun _=>
  (out[i.toNat]?).bind fun v1=>
  let e2:Int:=(IntKind.wrap .i64 (v0+(IntKind.wrap .i64 (v1.tdiv 10))))
  (idx out (IntKind.wrap .i64 (i+1))).bind fun _=>
  (out[(IntKind.wrap .i64 (i+1)).toNat]?).bind fun v3=>
  let e4:List Int:=(out.set (IntKind.wrap .i64 (i+1)).toNat e2)
  (idx e4 i).bind fun _=>
  (e4[i.toNat]?).bind fun v5=>
  (idx e4 i).bind fun _=>
  (e4[i.toNat]?).bind fun v6=>
  lq p q (IntKind.wrap .i64 (i+1)) (e4.set i.toNat (v5.tmod 10))
 else
  (aI (!(p==q)) out).bind fun r7=>
  some r7
theorem pF:E4 di (lu di aw):=fun _ _ _ _=>l1 66 2
def uj (iw:aa bN)(dB:aa dL)(bc:aa cf)(aq:aa ay):aa dJ:=fun a b=>
 (dB a).bind fun r0=>
 (dB b).bind fun r1=>
 bif r0.2 then
  bif r1.2 then
   (bc (IntKind.wrap .i64 (r0.1*r1.1))).bind fun r2=>
   some r2
  else
   (aq a).bind fun r3=>
   (aq b).bind fun r4=>
   let e5:Int:=(IntKind.wrap .i64 ((r3.2.length:Int)+(r4.2.length:Int)))
   bif (fP 8 (IntKind.wrap .i64 (e5+1)) (IntKind.wrap .i64 (e5+1))) then
   let e6:List Int:=(List.replicate (IntKind.wrap .i64 (e5+1)).toNat 0)
   iw r3.1 r3.2 r4.1 r4.2 0 e6
   else none
 else
  (aq a).bind fun r7=>
  (aq b).bind fun r8=>
  let e9:Int:=(IntKind.wrap .i64 ((r7.2.length:Int)+(r8.2.length:Int)))
  bif (fP 8 (IntKind.wrap .i64 (e9+1)) (IntKind.wrap .i64 (e9+1))) then
  let PK:List Int:=(List.replicate (IntKind.wrap .i64 (e9+1)).toNat 0)
  iw r7.1 r7.2 r8.1 r8.2 0 PK
  else none
theorem Bn:E2 dJ (uj bN dL cf ay):=fun _ _=>e1 66
def vg (dB:aa dL)(bc:aa cf)(aq:aa ay)(xf:aa ie)(aI:aa aw)(fg:aa dF)(dq:aa bq):aa ef:=fun a b=>
 (dB a).bind fun r0=>
 (dB b).bind fun r1=>
 bif r0.2 then
  bif r1.2 then
   (bc (IntKind.wrap .i64 (r0.1+r1.1))).bind fun r2=>
   some r2
  else
   (aq a).bind fun r3=>
   (aq b).bind fun r4=>
   bif (r3.1==r4.1) then
    (xf r3.2 r4.2).bind fun r5=>
    (aI r3.1 r5).bind fun r6=>
    some r6
   else
    (fg r3.2 r4.2).bind fun r7=>
    bif (decide (r7<0)) then
     (dq r4.2 r3.2).bind fun r8=>
     (aI r4.1 r8).bind fun r9=>
     some r9
    else
     (dq r3.2 r4.2).bind fun Bi=>
     (aI r3.1 Bi).bind fun P1=>
     some P1
 else
  (aq a).bind fun Ct=>
  (aq b).bind fun Hf=>
  bif (Ct.1==Hf.1) then
   (xf Ct.2 Hf.2).bind fun Hh=>
   (aI Ct.1 Hh).bind fun LS=>
   some LS
  else
   (fg Ct.2 Hf.2).bind fun Hg=>
   bif (decide (Hg<0)) then
    (dq Hf.2 Ct.2).bind fun WX=>
    (aI Hf.1 WX).bind fun r18=>
    some r18
   else
    (dq Ct.2 Hf.2).bind fun vJ=>
    (aI Ct.1 vJ).bind fun LW=>
    some LW
theorem CA:E2 ef (vg dL cf ay ie aw dF bq):=fun _ _=>e1 68
def kH (kI:aa du)(aI:aa aw):aa du:=fun q d=>
 bif (decide (q>0)) then
  bif (bj 8 1 d.length 1) then
  kI (IntKind.wrap .i64 (q.tdiv 10)) (d++([(q.tmod 10)]:List Int))
  else none
 else
  (aI true d).bind fun r0=>
  some r0
theorem oK:E2 du (kH du aw):=fun _ _=>l1 69 0
def kJ (kK:aa dw)(aI:aa aw):aa dw:=fun n d=>
 bif (decide (n>0)) then
  bif (bj 8 1 d.length 1) then
  kK (IntKind.wrap .i64 (n.tdiv 10)) (d++([(n.tmod 10)]:List Int))
  else none
 else
  (aI false d).bind fun r0=>
  some r0
theorem oL:E2 dw (kJ dw aw):=fun _ _=>l1 69 1
def sI (kI:aa du)(kK:aa dw):aa cf:=fun n=>
 bif (decide (n<0)) then
  let e0:List Int:=([(IntKind.wrap .i64 (0 - (n.tmod 10)))]:List Int)
  bif (bj 8 1 0 1) then
  let e1:Int:=(IntKind.wrap .i64 (0 - (IntKind.wrap .i64 (n.tdiv 10))))
  kI e1 (([]:List Int)++e0)
  else none
 else
  kK n ([]:List Int)
theorem Ag:E1 cf (sI du dw):=fun _=>e1 69
def rS (aq:aa ay)(fg:aa dF):aa bD:=fun a b=>
 (aq a).bind fun r0=>
 (aq b).bind fun r1=>
 bif (!(r0.1==r1.1)) then
  bif r0.1 then
   some (-1)
  else
   some 1
 else
  bif r0.1 then
   (fg r1.2 r0.2).bind fun r2=>
   some r2
  else
   (fg r0.2 r1.2).bind fun r3=>
   some r3
theorem y0:E2 bD (rS ay dF):=fun _ _=>e1 78
def ju (jv:aa c5)(jw:aa aQ)(cR:aa bt):aa bB:=fun b p x s y r i q=>
 bif (decide (i≥0)) then
  (idx x i).bind fun v0=>
  bif (bj 8 1 1 r.length) then
  (cR (([v0]:List Int)++r)).bind fun r1=>
  jv b p x s y r1 i 0 q
  else none
 else
  jw b p s r 0 q
theorem nq:E8 bB (ju c5 aQ bt):=fun _ _ _ _ _ _ _ _=>l1 81 0
def nP (jv:aa c5)(fK:aa bB)(fg:aa dF)(dq:aa bq):aa c5:=fun b p x s y r i k q=>
 (fg r y).bind fun r0=>
 bif (decide (r0≥0)) then
  (dq r y).bind fun r1=>
  jv b p x s y r1 i (IntKind.wrap .i64 (k+1)) q
 else
  bif (bj 8 1 q.length 1) then
  fK b p x s y r (IntKind.wrap .i64 (i - 1)) (q++([k]:List Int))
  else none
theorem uJ:E9 c5 (nP c5 bB dF bq):=fun _ _ _ _ _ _ _ _ _=>l1 81 1
def jx (jw:aa aQ)(aI:aa aw)(kL:aa dM)(jm:aa ef):aa aQ:=fun b p s r i q=>
 let e0:Int:=(IntKind.wrap .i64 ((q.length:Int).tdiv 2))
 bif (decide (i<e0)) then
  let e1:Int:=(IntKind.wrap .i64 ((q.length:Int) - 1))
  let e2:Int:=(IntKind.wrap .i64 ((q.length:Int) - 1))
  (idx q (IntKind.wrap .i64 (e2 - i))).bind fun _=>
  (q[(IntKind.wrap .i64 (e2 - i)).toNat]?).bind fun v3=>
  (idx q i).bind fun _=>
  (q[i.toNat]?).bind fun v4=>
  (idx q i).bind fun _=>
  (q[i.toNat]?).bind fun v5=>
  (idx (q.set i.toNat v3) (IntKind.wrap .i64 (e1 - i))).bind fun _=>
  ((q.set i.toNat v3)[(IntKind.wrap .i64 (e1 - i)).toNat]?).bind fun v6=>
  let e7:List Int:=((q.set i.toNat v3).set (IntKind.wrap .i64 (e1 - i)).toNat v4)
  jw b p s r (IntKind.wrap .i64 (i+1)) e7
 else
  (aI (!(p==s)) q).bind fun r8=>
  (aI p r).bind fun r9=>
  bif (!(r9.toList==(bs [48]).toList)) then
   bif (!(p==s)) then
    (kL r8 (bs [49])).bind fun Bi=>
    (jm r9 b).bind fun P1=>
    some (Bi,P1)
   else
    some (r8,r9)
  else
   some (r8,r9)
theorem nr:E6 aQ (jx aQ aw dM ef):=fun _ _ _ _ _ _=>l1 81 2
def pY (fK:aa bB)(dB:aa dL)(bc:aa cf)(aq:aa ay)(cR:aa bt):aa aR:=fun a b=>
 (dB a).bind fun r0=>
 (dB b).bind fun r1=>
 bif r0.2 then
  bif r1.2 then
   bif (!(r1.1==0)) then
   bif (!(r1.1==0)) then
   bif ((r0.1.tmod r1.1) != 0) then
    bif (!((decide ((r0.1.tmod r1.1)<0))==(decide (r1.1<0)))) then
     let e2:Int:=(IntKind.wrap .i64 ((IntKind.wrap .i64 (r0.1.tdiv r1.1)) - 1))
     (bc e2).bind fun r3=>
     (bc (IntKind.wrap .i64 ((r0.1.tmod r1.1)+r1.1))).bind fun r4=>
     some (r3,r4)
    else
     (bc (IntKind.wrap .i64 (r0.1.tdiv r1.1))).bind fun r5=>
     (bc (r0.1.tmod r1.1)).bind fun r6=>
     some (r5,r6)
   else
    (bc (IntKind.wrap .i64 (r0.1.tdiv r1.1))).bind fun r7=>
    (bc (r0.1.tmod r1.1)).bind fun r8=>
    some (r7,r8)
   else none
   else none
  else
   (aq a).bind fun r9=>
   (aq b).bind fun Bi=>
   let LK:Int:=(IntKind.wrap .i64 ((Bi.2.length:Int) - 1))
   let LV:Int:=(bif decide (LK>0) then LK else 0)
   let PZ:Int:=(bif decide ((IntKind.wrap .i64 ((r9.2.length:Int) - LV))>0) then (IntKind.wrap .i64 ((r9.2.length:Int) - LV)) else 0)
   bif (nc r9.2.length PZ (r9.2.length:Int)) then
   bif (bj 8 1 0 (cut r9.2 PZ (r9.2.length:Int)).length) then
   let UT:List Int:=(([]:List Int)++(cut r9.2 PZ (r9.2.length:Int)))
   (cR UT).bind fun LS=>
   fK b r9.1 r9.2 Bi.1 Bi.2 LS (IntKind.wrap .i64 (PZ - 1)) ([]:List Int)
   else none
   else none
 else
  (aq a).bind fun Hg=>
  (aq b).bind fun WX=>
  let e18:Int:=(IntKind.wrap .i64 ((WX.2.length:Int) - 1))
  let YX:Int:=(bif decide (e18>0) then e18 else 0)
  let ZG:Int:=(bif decide ((IntKind.wrap .i64 ((Hg.2.length:Int) - YX))>0) then (IntKind.wrap .i64 ((Hg.2.length:Int) - YX)) else 0)
  bif (nc Hg.2.length ZG (Hg.2.length:Int)) then
  bif (bj 8 1 0 (cut Hg.2 ZG (Hg.2.length:Int)).length) then
  let e21:List Int:=(([]:List Int)++(cut Hg.2 ZG (Hg.2.length:Int)))
  (cR e21).bind fun JJ=>
  fK b Hg.1 Hg.2 WX.1 WX.2 JJ (IntKind.wrap .i64 (ZG - 1)) ([]:List Int)
  else none
  else none
theorem yk:E2 aR (pY bB dL cf ay bt):=fun _ _=>e1 81
def pZ (aq:aa ay)(aI:aa aw):aa aH:=fun a=>
 (aq a).bind fun r0=>
 (aI (!r0.1) r0.2).bind fun r1=>
 some r1
theorem yl:E1 aH (pZ ay aw):=fun _=>e1 82
def lv (ix:aa dS):aa dS:=fun a n i=>
 bif (decide (i<(a.size:Int))) then
  (En a i).bind fun v0=>
  bif (v0 != 45) then
   (En a i).bind fun v1=>
   let e2:Int:=(IntKind.wrap .i64 ((IntKind.wrap .i64 (10*n))+(IntKind.wrap .i64 v1)))
   ix a (IntKind.wrap .i64 (e2 - 48)) (IntKind.wrap .i64 (i+1))
  else
   ix a n (IntKind.wrap .i64 (i+1))
 else
  bif (decide ((a.size:Int)>0)) then
   (En a 0).bind fun v3=>
   bif (v3==45) then
    some ((IntKind.wrap .i64 (0 - n)),true)
   else
    some (n,true)
  else
   some (n,true)
theorem pG:E3 dS (lv dS):=fun _ _ _=>l1 98 0
def uk (ix:aa dS)(Bo:aa ja):aa dL:=fun a=>
 (Bo a).bind fun r0=>
 bif (decide (r0>9)) then
  some (0,false)
 else
  ix a 0 0
theorem Bp:E1 dL (uk dS ja):=fun _=>e1 98
def kM (fh:aa dy)(cR:aa bt):aa dy:=fun a minus i d=>
 bif (decide (i≥0)) then
  (En a i).bind fun v0=>
  bif (v0 != 45) then
   (En a i).bind fun v1=>
   let e2:Int:=(IntKind.wrap .i64 ((IntKind.wrap .i64 v1) - 48))
   bif (bj 8 1 d.length 1) then
   fh a minus (IntKind.wrap .i64 (i - 1)) (d++([e2]:List Int))
   else none
  else
   fh a minus (IntKind.wrap .i64 (i - 1)) d
 else
  (cR d).bind fun r3=>
  some (minus,r3)
theorem oM:E4 dy (kM dy bt):=fun _ _ _ _=>l1 99 0
def sJ (fh:aa dy):aa ay:=fun a=>
 bif (decide ((a.size:Int)>0)) then
  (En a 0).bind fun v0=>
  fh a (v0==45) (IntKind.wrap .i64 ((a.size:Int) - 1)) ([]:List Int)
 else
  fh a false (IntKind.wrap .i64 ((a.size:Int) - 1)) ([]:List Int)
theorem Ah:E1 ay (sJ dy):=fun _=>e1 99
def mh (jn:aa eE):aa eE:=fun d i out=>
 bif (decide (i≥0)) then
  (idx d i).bind fun v0=>
  let e1:Int:=(IntKind.wrap .u8 (IntKind.wrap .i64 (48+v0)))
  bif (bj 1 1 out.length 1) then
  jn d (IntKind.wrap .i64 (i - 1)) (out++([e1]:List Int))
  else none
 else
  some (strOf out)
theorem p6:E3 eE (mh eE):=fun _ _ _=>l1 100 0
def vh (jn:aa eE)(cR:aa bt):aa aw:=fun minus d=>
 (cR d).bind fun r0=>
 bif ((r0.length:Int)==0) then
  some (bs [48])
 else
  bif minus then
   bif (bj 1 1 0 1) then
   let e1:Int:=(IntKind.wrap .i64 ((r0.length:Int) - 1))
   jn r0 e1 (([]:List Int)++([45]:List Int))
   else none
  else
   let e2:Int:=(IntKind.wrap .i64 ((r0.length:Int) - 1))
   jn r0 e2 ([]:List Int)
theorem CC:E2 aw (vh eE bt):=fun _ _=>e1 100
def jK (aM:aa fa):aa fa:=fun a b carry i out=>
 bif (decide (i<(a.length:Int))) then
  bif (decide (i<(a.length:Int))) then
   (idx a i).bind fun v0=>
   bif (decide (i<(b.length:Int))) then
    (idx b i).bind fun v1=>
    let e2:Int:=(IntKind.wrap .i64 ((IntKind.wrap .i64 (carry+v0))+v1))
    bif (bj 8 1 out.length 1) then
    aM a b (IntKind.wrap .i64 (e2.tdiv 10)) (IntKind.wrap .i64 (i+1)) (out++([(e2.tmod 10)]:List Int))
    else none
   else
    let e3:Int:=((IntKind.wrap .i64 (carry+v0)).tmod 10)
    bif (bj 8 1 out.length 1) then
    let e4:Int:=(IntKind.wrap .i64 ((IntKind.wrap .i64 (carry+v0)).tdiv 10))
    aM a b e4 (IntKind.wrap .i64 (i+1)) (out++([e3]:List Int))
    else none
  else
   bif (decide (i<(b.length:Int))) then
    (idx b i).bind fun v5=>
    let e6:Int:=((IntKind.wrap .i64 (carry+v5)).tmod 10)
    bif (bj 8 1 out.length 1) then
    let e7:Int:=(IntKind.wrap .i64 ((IntKind.wrap .i64 (carry+v5)).tdiv 10))
    aM a b e7 (IntKind.wrap .i64 (i+1)) (out++([e6]:List Int))
    else none
   else
    bif (bj 8 1 out.length 1) then
    aM a b (IntKind.wrap .i64 (carry.tdiv 10)) (IntKind.wrap .i64 (i+1)) (out++([(carry.tmod 10)]:List Int))
    else none
 else
  bif (decide (i<(b.length:Int))) then
   bif (decide (i<(a.length:Int))) then
    (idx a i).bind fun v8=>
    bif (decide (i<(b.length:Int))) then
     (idx b i).bind fun v9=>
     let PK:Int:=(IntKind.wrap .i64 ((IntKind.wrap .i64 (carry+v8))+v9))
     bif (bj 8 1 out.length 1) then
     aM a b (IntKind.wrap .i64 (PK.tdiv 10)) (IntKind.wrap .i64 (i+1)) (out++([(PK.tmod 10)]:List Int))
     else none
    else
     let LK:Int:=((IntKind.wrap .i64 (carry+v8)).tmod 10)
     bif (bj 8 1 out.length 1) then
     let LV:Int:=(IntKind.wrap .i64 ((IntKind.wrap .i64 (carry+v8)).tdiv 10))
     aM a b LV (IntKind.wrap .i64 (i+1)) (out++([LK]:List Int))
     else none
   else
    bif (decide (i<(b.length:Int))) then
     (idx b i).bind fun wK=>
     let UT:Int:=((IntKind.wrap .i64 (carry+wK)).tmod 10)
     bif (bj 8 1 out.length 1) then
     let e15:Int:=(IntKind.wrap .i64 ((IntKind.wrap .i64 (carry+wK)).tdiv 10))
     aM a b e15 (IntKind.wrap .i64 (i+1)) (out++([UT]:List Int))
     else none
    else
     bif (bj 8 1 out.length 1) then
     aM a b (IntKind.wrap .i64 (carry.tdiv 10)) (IntKind.wrap .i64 (i+1)) (out++([(carry.tmod 10)]:List Int))
     else none
  else
   bif (decide (carry>0)) then
    bif (decide (i<(a.length:Int))) then
     (idx a i).bind fun BM=>
     bif (decide (i<(b.length:Int))) then
      (idx b i).bind fun Cu=>
      let e18:Int:=(IntKind.wrap .i64 ((IntKind.wrap .i64 (carry+BM))+Cu))
      bif (bj 8 1 out.length 1) then
      aM a b (IntKind.wrap .i64 (e18.tdiv 10)) (IntKind.wrap .i64 (i+1)) (out++([(e18.tmod 10)]:List Int))
      else none
     else
      let YX:Int:=((IntKind.wrap .i64 (carry+BM)).tmod 10)
      bif (bj 8 1 out.length 1) then
      let ZG:Int:=(IntKind.wrap .i64 ((IntKind.wrap .i64 (carry+BM)).tdiv 10))
      aM a b ZG (IntKind.wrap .i64 (i+1)) (out++([YX]:List Int))
      else none
    else
     bif (decide (i<(b.length:Int))) then
      (idx b i).bind fun YW=>
      let e22:Int:=((IntKind.wrap .i64 (carry+YW)).tmod 10)
      bif (bj 8 1 out.length 1) then
      let e23:Int:=(IntKind.wrap .i64 ((IntKind.wrap .i64 (carry+YW)).tdiv 10))
      aM a b e23 (IntKind.wrap .i64 (i+1)) (out++([e22]:List Int))
      else none
     else
      bif (bj 8 1 out.length 1) then
      aM a b (IntKind.wrap .i64 (carry.tdiv 10)) (IntKind.wrap .i64 (i+1)) (out++([(carry.tmod 10)]:List Int))
      else none
   else
    some out
theorem mi:E5 fa (jK fa):=fun _ _ _ _ _=>l1 103 0
def xg (aM:aa fa):aa ie:=fun a b=>
 aM a b 0 0 ([]:List Int)
theorem DQ:E2 ie (xg fa):=fun _ _=>e1 103
def mj (ml:aa eF):aa eF:=fun a b i=>
 bif (decide (i≥0)) then
  (idx a i).bind fun v0=>
  (idx b i).bind fun v1=>
  bif (decide (v0<v1)) then
   some (-1)
  else
   (idx a i).bind fun v2=>
   (idx b i).bind fun v3=>
   bif (decide (v2>v3)) then
    some 1
   else
    ml a b (IntKind.wrap .i64 (i - 1))
 else
  some 0
theorem p7:E3 eF (mj eF):=fun _ _ _=>l1 104 0
def vi (ml:aa eF):aa dF:=fun a b=>
 bif ((a.length:Int) != (b.length:Int)) then
  bif (decide ((a.length:Int)<(b.length:Int))) then
   some (-1)
  else
   some 1
 else
  let e0:Int:=(IntKind.wrap .i64 ((a.length:Int) - 1))
  ml a b e0
theorem CD:E2 dF (vi eF):=fun _ _=>e1 104
def im (cM:aa cq)(cR:aa bt):aa cq:=fun a b borrow i out=>
 bif (decide (i<(a.length:Int))) then
  (idx a i).bind fun v0=>
  bif (decide (i<(b.length:Int))) then
   (idx b i).bind fun v1=>
   let e2:Int:=(IntKind.wrap .i64 ((IntKind.wrap .i64 (v0 - borrow)) - v1))
   bif (decide (e2<0)) then
    let e3:List Int:=([(IntKind.wrap .i64 (e2+10))]:List Int)
    bif (bj 8 1 out.length 1) then
    cM a b 1 (IntKind.wrap .i64 (i+1)) (out++e3)
    else none
   else
    bif (bj 8 1 out.length 1) then
    cM a b 0 (IntKind.wrap .i64 (i+1)) (out++([e2]:List Int))
    else none
  else
   bif (decide ((IntKind.wrap .i64 (v0 - borrow))<0)) then
    let e4:Int:=(IntKind.wrap .i64 ((IntKind.wrap .i64 (v0 - borrow))+10))
    bif (bj 8 1 out.length 1) then
    cM a b 1 (IntKind.wrap .i64 (i+1)) (out++([e4]:List Int))
    else none
   else
    bif (bj 8 1 out.length 1) then
    let e5:List Int:=(out++([(IntKind.wrap .i64 (v0 - borrow))]:List Int))
    cM a b 0 (IntKind.wrap .i64 (i+1)) e5
    else none
 else
  (cR out).bind fun r6=>
  some r6
theorem lQ:E5 cq (im cq bt):=fun _ _ _ _ _=>l1 105 0
def oN (cM:aa cq):aa bq:=fun a b=>
 cM a b 0 0 ([]:List Int)
theorem vY:E2 bq (oN cq):=fun _ _=>e1 105
def um (aX:aa aH)(jm:aa ef):aa dM:=fun a b=>
 (aX b).bind fun r0=>
 (jm a r0).bind fun r1=>
 some r1
theorem Bq:E2 dM (um aH ef):=fun _ _=>e1 113
def mn (mo:aa eG):aa eG:=fun d=>
 bif (decide ((d.length:Int)>0)) then
  let e0:Int:=(IntKind.wrap .i64 ((d.length:Int) - 1))
  (idx d e0).bind fun v1=>
  bif (v1==0) then
   let e2:Int:=(IntKind.wrap .i64 ((d.length:Int) - 1))
   bif (nc d.length 0 e2) then
   mo (cut d 0 e2)
   else none
  else
   some d
 else
  some d
theorem p8:E1 eG (mn eG):=fun _=>l1 114 0
def vj (mo:aa eG):aa bt:=fun d=>
 mo d
theorem CE:E1 bt (vj eG):=fun _=>e1 114
def sK:aa ja:=fun a=>
 bif (decide ((a.size:Int)>0)) then
  (En a 0).bind fun v0=>
  bif (v0==45) then
   some (IntKind.wrap .i64 ((a.size:Int) - 1))
  else
   some (a.size:Int)
 else
  some (a.size:Int)
theorem Ai:E1 ja sK:=fun _=>e1 124
end
noncomputable section
def mq (mr:aa eo)(DR:aa kW):aa eo:=fun m i out=>
 bif (decide (i<(m.length:Int))) then
  (idx m i).bind fun v0=>
  (DR v0).bind fun r1=>
  bif (bj 24 1 out.length 1) then
  mr m (IntKind.wrap .i64 (i+1)) (out++([r1]:List (List Int)))
  else none
 else
  some out
theorem p9:E3 eo (mq eo kW):=fun _ _ _=>l1 14 0
def vk (mr:aa eo):aa kT:=fun m=>
 mr m 0 ([]:List (List Int))
theorem CF:E1 kT (vk eo):=fun _=>e1 14
def mu (mv:aa ew)(DS:aa kY):aa ew:=fun a b i=>
 bif (decide (i<(a.length:Int))) then
  (idx a i).bind fun v0=>
  (idx b i).bind fun v1=>
  (DS v0 v1).bind fun r2=>
  bif (!r2) then
   some false
  else
   mv a b (IntKind.wrap .i64 (i+1))
 else
  some true
theorem qc:E3 ew (mu ew kY):=fun _ _ _=>l1 18 0
def vm (mv:aa ew):aa kV:=fun a b=>
 bif ((a.length:Int) != (b.length:Int)) then
  some false
 else
  mv a b 0
theorem CG:E2 kV (vm ew):=fun _ _=>e1 18
end
noncomputable section
def uo (CH:aa g8)(il:aa dI):aa eM:=fun m=>
 (CH m).bind fun r0=>
 bif (r0==0) then
  bif (decide ((m.length:Int)>8)) then
   some 3
  else
   (il m).bind fun r1=>
   bif (decide (r1>8)) then
    some 3
   else
    some r0
 else
  some r0
theorem Br:E1 eM (uo g8 dI):=fun _=>e1 11
def uq:aa dI:=fun m=>
 bif ((m.length:Int)==0) then
  some 0
 else
  (idx m 0).bind fun v0=>
  some (v0.length:Int)
theorem Bs:E1 dI uq:=fun _=>e1 12
def mw (ot:aa eM)(Aj:aa ic)(il:aa dI)(DT:aa kX):aa fC:=fun m=>
 (ot m).bind fun r0=>
 bif (r0 != 0) then
  some (([]:List (List ByteArray)),r0)
 else
  (Aj m).bind fun r1=>
  (il m).bind fun r2=>
  (DT r1 r2).bind fun r3=>
  some (r3,(0:Int))
theorem qd:E1 fC (mw eM ic dI kX):=fun _=>e1 16
def my (mz:aa ep)(pB:aa eb):aa ep:=fun a b i=>
 bif (decide (i<(a.length:Int))) then
  (idx a i).bind fun v0=>
  (idx b i).bind fun v1=>
  (pB v0 v1).bind fun r2=>
  bif (!r2) then
   some false
  else
   mz a b (IntKind.wrap .i64 (i+1))
 else
  some true
theorem qe:E3 ep (my ep eb):=fun _ _ _=>l1 17 0
def vn (mz:aa ep):aa kU:=fun a b=>
 bif ((a.length:Int) != (b.length:Int)) then
  some false
 else
  mz a b 0
theorem CI:E2 kU (vn ep):=fun _ _=>e1 17
def iy (lx:aa bM)(ly:aa bz):aa bM:=fun m i=>
 bif (decide (i<(m.length:Int))) then
  (idx m i).bind fun v0=>
  bif (decide ((v0.length:Int)>64)) then
   some 3
  else
   lx m (IntKind.wrap .i64 (i+1))
 else
  ly m 0
theorem kN:E2 bM (iy bM bz):=fun _ _=>l1 27 0
def iz (ly:aa bz)(lz:aa bA):aa bz:=fun m i=>
 bif (decide (i<(m.length:Int))) then
  (idx m i).bind fun v0=>
  (idx m 0).bind fun v1=>
  bif ((v0.length:Int) != (v1.length:Int)) then
   some 10
  else
   ly m (IntKind.wrap .i64 (i+1))
 else
  lz m 0
theorem kO:E2 bz (iz bz bA):=fun _ _=>l1 27 1
def iA (lz:aa bA)(CJ:aa jS):aa bA:=fun m i=>
 bif (decide (i<(m.length:Int))) then
  (idx m i).bind fun v0=>
  (CJ v0).bind fun r1=>
  bif (!r1) then
   some 1
  else
   lz m (IntKind.wrap .i64 (i+1))
 else
  some 0
theorem kP:E2 bA (iA bA jS):=fun _ _=>l1 27 2
def ur (lx:aa bM):aa g8:=fun m=>
 bif (decide ((m.length:Int)>64)) then
  some 3
 else
  lx m 0
theorem Bt:E1 g8 (ur bM):=fun _=>e1 27
def mA (mB:aa eA)(gq:aa a7):aa cn:=fun m aG i aT=>
 bif (decide (i<(m.length:Int))) then
  (idx m i).bind fun v0=>
  bif (bj 16 1 0 v0.length) then
  mB m aG i 0 aT (([]:List ByteArray)++v0)
  else none
 else
  gq m aG 0 aT ([]:List (List ByteArray))
theorem qf:E4 cn (mA eA a7):=fun _ _ _ _=>l1 37 0
def mC (mB:aa eA)(cj:aa cn)(iB:aa dh)(gr:aa bD)(dO:aa eY)(lA:aa dR)(bF:aa aR)(aX:aa aH):aa eA:=fun m aG i c aT v=>
 bif (decide (c<aG)) then
  (idx v c).bind fun _=>
  (v[c.toNat]?).bind fun v0=>
  bif (v0.toList==(bs [48]).toList) then
   mB m aG i (IntKind.wrap .i64 (c+1)) aT v
  else
   (idx aT c).bind fun _=>
   (aT[c.toNat]?).bind fun v1=>
   bif (Option.isNone v1) then
    (idx v c).bind fun _=>
    (v[c.toNat]?).bind fun v2=>
    (gr v2 (bs [48])).bind fun r3=>
    bif (decide (r3<0)) then
     (dO (bs [45,49]) v (bs [48]) v).bind fun r4=>
     (idx aT c).bind fun _=>
     (aT[c.toNat]?).bind fun v5=>
     (sB [] (.mN (.str)) [⟨.slice (.str),r4⟩]).bind fun v6=>
     cj m aG (IntKind.wrap .i64 (i+1)) (aT.set c.toNat v6)
    else
     (idx aT c).bind fun _=>
     (aT[c.toNat]?).bind fun v7=>
     (sB [] (.mN (.str)) [⟨.slice (.str),v⟩]).bind fun v8=>
     cj m aG (IntKind.wrap .i64 (i+1)) (aT.set c.toNat v8)
   else
    (idx aT c).bind fun _=>
    (aT[c.toNat]?).bind fun v9=>
    (idx (K7 v9) c).bind fun v10=>
    (idx v c).bind fun _=>
    (v[c.toNat]?).bind fun v11=>
    (lA v10 v11).bind fun Ct=>
    (idx (K7 v9) c).bind fun wK=>
    (bF wK Ct.1).bind fun Hh=>
    (idx v c).bind fun _=>
    (v[c.toNat]?).bind fun yW=>
    (bF yW Ct.1).bind fun Hg=>
    (dO Ct.2.1 (K7 v9) Ct.2.2 v).bind fun WX=>
    (idx aT c).bind fun _=>
    (aT[c.toNat]?).bind fun BR=>
    (sB [] (.mN (.str)) [⟨.slice (.str),WX⟩]).bind fun P0=>
    (aX Hg.1).bind fun LW=>
    (dO Hh.1 v LW (K7 v9)).bind fun Bj=>
    iB m aG i Bj (IntKind.wrap .i64 (c+1)) (aT.set c.toNat P0)
 else
  cj m aG (IntKind.wrap .i64 (i+1)) aT
theorem qg:E6 eA (mC eA cn dh bD eY dR aR aH):=fun _ _ _ _ _ _=>l1 37 1
def mD (gq:aa a7)(mE:aa dt)(mF:aa cX):aa a7:=fun m aG c aT out=>
 bif (decide (c<aG)) then
  (idx aT c).bind fun _=>
  (aT[c.toNat]?).bind fun v0=>
  bif (Option.isNone v0) then
   gq m aG (IntKind.wrap .i64 (c+1)) aT out
  else
   mE m aG c 0 aT out
 else
  mF m aG out
theorem qh:E5 a7 (mD a7 dt cX):=fun _ _ _ _ _=>l1 37 2
def cA (iB:aa dh)(cj:aa cn)(gr:aa bD)(dO:aa eY)(lA:aa dR)(bF:aa aR)(aX:aa aH):aa dh:=fun m aG i v c aT=>
 bif (decide (c<aG)) then
  (idx v c).bind fun v0=>
  bif (v0.toList==(bs [48]).toList) then
   iB m aG i v (IntKind.wrap .i64 (c+1)) aT
  else
   (idx aT c).bind fun _=>
   (aT[c.toNat]?).bind fun v1=>
   bif (Option.isNone v1) then
    (idx v c).bind fun v2=>
    (gr v2 (bs [48])).bind fun r3=>
    bif (decide (r3<0)) then
     (dO (bs [45,49]) v (bs [48]) v).bind fun r4=>
     (idx aT c).bind fun _=>
     (aT[c.toNat]?).bind fun v5=>
     (sB [] (.mN (.str)) [⟨.slice (.str),r4⟩]).bind fun v6=>
     cj m aG (IntKind.wrap .i64 (i+1)) (aT.set c.toNat v6)
    else
     (idx aT c).bind fun _=>
     (aT[c.toNat]?).bind fun v7=>
     (sB [] (.mN (.str)) [⟨.slice (.str),v⟩]).bind fun v8=>
     cj m aG (IntKind.wrap .i64 (i+1)) (aT.set c.toNat v8)
   else
    (idx aT c).bind fun _=>
    (aT[c.toNat]?).bind fun v9=>
    (idx (K7 v9) c).bind fun v10=>
    (idx v c).bind fun v11=>
    (lA v10 v11).bind fun Ct=>
    (idx (K7 v9) c).bind fun wK=>
    (bF wK Ct.1).bind fun Hh=>
    (idx v c).bind fun yW=>
    (bF yW Ct.1).bind fun Hg=>
    (dO Ct.2.1 (K7 v9) Ct.2.2 v).bind fun WX=>
    (idx aT c).bind fun _=>
    (aT[c.toNat]?).bind fun BR=>
    (sB [] (.mN (.str)) [⟨.slice (.str),WX⟩]).bind fun P0=>
    (aX Hg.1).bind fun LW=>
    (dO Hh.1 v LW (K7 v9)).bind fun Bj=>
    iB m aG i Bj (IntKind.wrap .i64 (c+1)) (aT.set c.toNat P0)
 else
  cj m aG (IntKind.wrap .i64 (i+1)) aT
theorem c6:E6 dh (cA dh cn bD eY dR aR aH):=fun _ _ _ _ _ _=>l1 37 1
def mG (mE:aa dt)(gq:aa a7)(bF:aa aR)(aX:aa aH)(dO:aa eY):aa dt:=fun m aG c i aT out=>
 bif (decide (i<(out.length:Int))) then
  (idx out i).bind fun _=>
  (out[i.toNat]?).bind fun v0=>
  (idx v0 c).bind fun v1=>
  (idx aT c).bind fun _=>
  (aT[c.toNat]?).bind fun v2=>
  (idx (K7 v2) c).bind fun v3=>
  (bF v1 v3).bind fun r4=>
  (idx out i).bind fun _=>
  (out[i.toNat]?).bind fun v5=>
  (aX r4.1).bind fun r6=>
  (idx aT c).bind fun _=>
  (aT[c.toNat]?).bind fun v7=>
  (dO (bs [49]) v5 r6 (K7 v7)).bind fun r8=>
  (idx out i).bind fun _=>
  (out[i.toNat]?).bind fun v9=>
  mE m aG c (IntKind.wrap .i64 (i+1)) aT (out.set i.toNat r8)
 else
  (idx aT c).bind fun _=>
  (aT[c.toNat]?).bind fun v10=>
  bif (bj 24 1 out.length 1) then
  gq m aG (IntKind.wrap .i64 (c+1)) aT (out++([(K7 v10)]:List (List ByteArray)))
  else none
theorem qi:E6 dt (mG dt a7 aR aH eY):=fun _ _ _ _ _ _=>l1 37 3
def mH (mI:aa eB):aa cX:=fun m aG out=>
 bif (decide ((out.length:Int)<(m.length:Int))) then
  bif (fP 16 aG aG) then
  mI m aG 0 out (List.replicate aG.toNat ByteArray.empty)
  else none
 else
  some out
theorem qj:E3 cX (mH eB):=fun _ _ _=>l1 37 4
def mJ (mI:aa eB)(mF:aa cX):aa eB:=fun m aG c out zero=>
 bif (decide (c<aG)) then
  (idx zero c).bind fun _=>
  (zero[c.toNat]?).bind fun v0=>
  mI m aG (IntKind.wrap .i64 (c+1)) out (zero.set c.toNat (bs [48]))
 else
  bif (bj 24 1 out.length 1) then
  mF m aG (out++([zero]:List (List ByteArray)))
  else none
theorem qk:E5 eB (mJ eB cX):=fun _ _ _ _ _=>l1 37 5
def vo (cj:aa cn):aa kX:=fun m aG=>
 bif (fP 24 aG aG) then
 let e0:List (Option (List ByteArray)):=(List.replicate aG.toNat (none:Option (List ByteArray)))
 cj m aG 0 e0
 else none
theorem CK:E2 kX (vo cn):=fun _ _=>e1 37
def j6 (j7:aa dj):aa cu:=fun m i out=>
 bif (decide (i<(m.length:Int))) then
  j7 m i 0 out ([]:List ByteArray)
 else
  some out
theorem nQ:E3 cu (j6 dj):=fun _ _ _=>l1 38 0
def j8 (j7:aa dj)(j9:aa cu)(bc:aa cf):aa dj:=fun m i k out row=>
 (idx m i).bind fun v0=>
 bif (decide (k<(v0.length:Int))) then
  (idx m i).bind fun v1=>
  (idx v1 k).bind fun v2=>
  (bc v2).bind fun r3=>
  bif (bj 16 1 row.length 1) then
  j7 m i (IntKind.wrap .i64 (k+1)) out (row++([r3]:List ByteArray))
  else none
 else
  bif (bj 24 1 out.length 1) then
  j9 m (IntKind.wrap .i64 (i+1)) (out++([row]:List (List ByteArray)))
  else none
theorem nR:E5 dj (j8 dj cu cf):=fun _ _ _ _ _=>l1 38 1
def rT (j9:aa cu):aa ic:=fun m=>
 j9 m 0 ([]:List (List ByteArray))
theorem y3:E1 ic (rT cu):=fun _=>e1 38
def fy (lB:aa dP):aa dP:=fun v i=>
 bif (decide (i<(v.length:Int))) then
  (idx v i).bind fun v0=>
  bif (decide (v0<(-1000000))) then
   some false
  else
   (idx v i).bind fun v1=>
   bif (decide (v1>1000000)) then
    some false
   else
    lB v (IntKind.wrap .i64 (i+1))
 else
  some true
theorem gP:E2 dP (fy dP):=fun _ _=>l1 64 0
def uv (lB:aa dP):aa jS:=fun v=>
 lB v 0
theorem Bu:E1 jS (uv dP):=fun _=>e1 64
def nH (nI:aa eZ)(iq:aa dJ)(jm:aa ef):aa eZ:=fun k a l b i out=>
 bif (decide (i<(a.length:Int))) then
  (idx a i).bind fun v0=>
  (iq k v0).bind fun r1=>
  (idx b i).bind fun v2=>
  (iq l v2).bind fun r3=>
  (jm r1 r3).bind fun r4=>
  bif (bj 16 1 out.length 1) then
  nI k a l b (IntKind.wrap .i64 (i+1)) (out++([r4]:List ByteArray))
  else none
 else
  some out
theorem rU:E6 eZ (nH eZ dJ ef):=fun _ _ _ _ _ _=>l1 79 0
def xi (nI:aa eZ):aa eY:=fun k a l b=>
 nI k a l b 0 ([]:List ByteArray)
theorem DV:E4 eY (xi eZ):=fun _ _ _ _=>e1 79
def ea (jy:aa ax)(bF:aa aR)(iq:aa dJ)(kL:aa dM)(gr:aa bD)(aX:aa aH):aa ax:=fun r s x y u v=>
 bif (!(s.toList==(bs [48]).toList)) then
  (bF r s).bind fun r0=>
  (iq r0.1 u).bind fun r1=>
  (kL x r1).bind fun r2=>
  (iq r0.1 v).bind fun r3=>
  (kL y r3).bind fun r4=>
  jy s r0.2 u v r2 r4
 else
  (gr r (bs [48])).bind fun r5=>
  bif (decide (r5<0)) then
   (aX r).bind fun r6=>
   (aX x).bind fun r7=>
   (aX y).bind fun r8=>
   some (r6,r7,r8)
  else
   some (r,x,y)
theorem ns:E6 ax (ea ax aR dJ dM bD aH):=fun _ _ _ _ _ _=>l1 80 0
def ql (jy:aa ax):aa dR:=fun a b=>
 jy a b (bs [49]) (bs [48]) (bs [48]) (bs [49])
theorem ym:E2 dR (ql ax):=fun _ _=>e1 80
end
noncomputable section
end
noncomputable section
def uw:=wG cW fun w x=>jl x
theorem Bv:∀w,uw w=cW:=mkLe fun _=>(x3 lj)
def vp:=pN eb fun w=>pC (uw w)
theorem CL:∀w,vp w=eb:=fu fun w=>by rw[Bv w];exact(x2 ui)
def yK:=pN nM fun w=>yI
theorem Fi:∀w,yK w=nM:=fu fun w=>by exact Fg.symm
def yL:=pN ld fun w=>yJ (vp w)
theorem Fj:∀w,yL w=ld:=fu fun w=>by rw[CL w];exact(x3 Fh)
def cb:=pN ar fun w=>sd
theorem cN:∀w,cb w=ar:=fu fun _=>(x3 wL)
def aS:=pN aj fun w=>qH
theorem ck:∀w,aS w=aj:=fu fun _=>(x1 uZ)
def B1:=wG fH fun w x=>iH x
theorem I0:∀w,B1 w=fH:=mkLe fun _=>(x3 jZ)
def yn:=pN ky fun w=>yi (B1 w)
theorem B2:∀w,yn w=ky:=fu fun w=>by rw[I0 w];exact(x1 BY)
def vq:=wG (cO,dm,cP,cQ) fun w x=>(jF x.2.1 x.2.2.1,jG x.2.1 x.1,nA x.2.2.1 x.2.2.2,nB x.2.2.2)
theorem CM:∀w,vq w=(cO,dm,cP,cQ):=mkLe fun w=>by exact Prod.ext (x6 l8) (Prod.ext (x8 l9) (Prod.ext (x3 rK) ((x3 rL))))
def qZ:=pN eX fun w=>qM (vq w).1
theorem vr:∀w,qZ w=eX:=fu fun w=>by rw[CM w];exact(x1 u6)
def KO:=wG mS fun w x=>u7 x
theorem P2:∀w,KO w=mS:=mkLe fun _=>(x5 yc)
def ux:=pN l3 fun w=>IJ (KO w)
theorem tf:∀w,ux w=l3:=fu fun w=>by rw[P2 w];exact(x1 KN)
def nZ:=pN dg fun w=>sj
theorem q6:∀w,nZ w=dg:=fu fun _=>(x1 wT)
def fo:=pN aL fun w=>nE
theorem gu:∀w,fo w=aL:=fu fun _=>(x5 rM)
def Gb:=wG kn fun w x=>BP x (ux w)
theorem L5:∀w,Gb w=kn:=mkLe fun w=>by rw[tf w];exact(x6 IK)
def I1:=pN wH fun w=>IL (Gb w)
theorem Oe:∀w,I1 w=wH:=fu fun w=>by rw[L5 w];exact(x3 N8)
def oO:=wG bL fun w x=>nj x
theorem vZ:∀w,oO w=bL:=mkLe fun _=>(x7 tQ)
def fi:=pN aW fun w=>pj (oO w)
theorem gB:∀w,fi w=aW:=fu fun w=>by rw[vZ w];exact(x5 wY)
def Gc:=wG iX fun w x=>rj x
theorem L6:∀w,Gc w=iX:=mkLe fun _=>(x3 tR)
def yo:=pN l4 fun w=>Cv (Gc w)
theorem Ak:∀w,yo w=l4:=fu fun w=>by rw[L6 w];exact(x2 F5)
def DW:=wG gN fun w x=>pk x
theorem JL:∀w,DW w=gN:=mkLe fun _=>(x5 so)
def Al:=pN mU fun w=>z4 (DW w)
theorem DY:∀w,Al w=mU:=fu fun w=>by rw[JL w];exact(x2 DH)
def Gd:=wG iY fun w x=>rk x
theorem L7:∀w,Gd w=iY:=mkLe fun _=>(x1 tT)
def uy:=pN jT fun w=>Cw (Gd w)
theorem vt:∀w,uy w=jT:=fu fun w=>by rw[L7 w];exact(x1 F6)
def Ge:=wG iZ fun w x=>rA x
theorem L8:∀w,Ge w=iZ:=mkLe fun _=>(x6 tY)
def I2:=pN tE fun w=>ye (Ge w)
theorem Of:∀w,I2 w=tE:=fu fun w=>by rw[L8 w];exact(x2 z5)
def DZ:=wG gO fun w x=>pn x
theorem JM:∀w,DZ w=gO:=mkLe fun _=>(x6 sq)
def Gf:=pN qG fun w=>z6 (DZ w)
theorem L9:∀w,Gf w=qG:=fu fun w=>by rw[JM w];exact(x2 DJ)
def D0:=wG (jb,jc) fun w x=>(z7 x.2,z8 x.2 x.1 (cb w) (aS w) (fo w) (fi w))
theorem JN:∀w,D0 w=(jb,jc):=mkLe fun w=>by rw[cN w,ck w,gu w,gB w];exact Prod.ext (x5 GQ) ((x6 GR))
def Gg:=pN td fun w=>F8 (D0 w).1
theorem Ma:∀w,Gg w=td:=fu fun w=>by rw[JN w];exact(x4 L0)
def D1:=wG jd fun w x=>z9 x
theorem JO:∀w,D1 w=jd:=mkLe fun _=>(x2 GS)
def Gh:=pN te fun w=>F9 (D1 w)
theorem Mb:∀w,Gh w=te:=fu fun w=>by rw[JO w];exact(x2 L3)
def Gi:=wG kr fun w x=>BU x
theorem Mc:∀w,Gi w=kr:=mkLe fun _=>(x3 IT)
def I3:=pN wJ fun w=>IU (Gi w)
theorem Oh:∀w,I3 w=wJ:=fu fun w=>by rw[Mc w];exact(x1 Od)
def B3:=wG fI fun w x=>nV x
theorem I4:∀w,B3 w=fI:=mkLe fun _=>(x6 qP)
def D2:=pN oa fun w=>yf (B3 w)
theorem JP:∀w,D2 w=oa:=fu fun w=>by rw[I4 w];exact(x2 BV)
def vu:=wG dn fun w x=>jJ x (qZ w)
theorem CN:∀w,vu w=dn:=mkLe fun w=>by rw[vr w];exact(x5 mc)
def xj:=pN ig fun w=>qY (vu w)
theorem D3:∀w,xj w=ig:=fu fun w=>by rw[CN w];exact(x2 va)
def Am:=wG (dc,cG,cH) fun w x=>(jW x.1 x.2.1,jX x.2.1 x.2.2,jY x.2.2 (yn w))
theorem GW:∀w,Am w=(dc,cG,cH):=mkLe fun w=>by rw[B2 w];exact Prod.ext (x4 lK) (Prod.ext (x4 lL) ((x3 lM)))
def wa:=pN gT fun w=>vT (Am w).1
theorem An:∀w,wa w=gT:=fu fun w=>by rw[GW w];exact(x1 Ab)
def yM:=wG (dD,ed) fun w x=>(lG x.2,lI x.2 x.1 (ux w))
theorem Fk:∀w,yM w=(dD,ed):=mkLe fun w=>by rw[tf w];exact Prod.ext (x6 ob) ((ZC oc))
def ka:=pN cY fun w=>tF (yM w).1
theorem kZ:∀w,ka w=cY:=fu fun w=>by rw[Fk w];exact(x3 yF)
def Ao:=wG eW fun w x=>mX x (xj w)
theorem GX:∀w,Ao w=eW:=mkLe fun w=>by rw[D3 w];exact(x6 pq)
def B4:=pN kl fun w=>vU (Ao w)
theorem I5:∀w,B4 w=kl:=fu fun w=>by rw[GX w];exact(x3 Ac)
def Ap:=wG gd fun w x=>xa x (qZ w)
theorem GY:∀w,Ap w=gd:=mkLe fun w=>by rw[vr w];exact(x4 DP)
def wb:=pN km fun w=>B0 (Ap w)
theorem Aq:∀w,wb w=km:=fu fun w=>by rw[GY w];exact(x1 IZ)
def sw:=pN eU fun w=>si (yo w)
theorem xk:∀w,sw w=eU:=fu fun w=>by rw[Ak w];exact(x2 wS)
def pH:=pN eD fun w=>yd (uy w)
theorem rB:∀w,pH w=eD:=fu fun w=>by rw[vt w];exact(x2 BO)
def iI:=pN bp fun w=>sn (I2 w) (pH w) (yo w) (Gf w)
theorem kb:∀w,iI w=bp:=fu fun w=>by rw[Of w,rB w,Ak w,L9 w];exact(x2 wW)
def rV:=wG (cS,cU) fun w x=>(pr x.2 (fo w) (fi w),pz x.2 x.1 (cb w) (aS w) (nZ w) (sw w))
theorem y4:∀w,rV w=(cS,cU):=mkLe fun w=>by rw[gu w,gB w,cN w,ck w,q6 w,xk w];exact Prod.ext (x8 xb) ((x9 xc))
def sL:=pN gz fun w=>sH (rV w).1
theorem Ar:∀w,sL w=gz:=fu fun w=>by rw[y4 w];exact(x5 Af)
def Gj:=wG (dz,gp,eP,gV) fun w x=>(rl x.2.1 (Al w),rq x.2.2.1 x.2.1,ry x.2.2.1 x.2.2.2 x.1,rz x.2.2.2 x.1)
theorem Md:∀w,Gj w=(dz,gp,eP,gV):=mkLe fun w=>by rw[DY w];exact Prod.ext (x6 tU) (Prod.ext (x8 tV) (Prod.ext (ZC tW) ((x11 tX))))
def I6:=pN tD fun w=>Cx (Gj w).1 (D2 w) (uy w)
theorem Oi:∀w,I6 w=tD:=fu fun w=>by rw[Md w];rw[JP w,vt w];exact(x2 F7)
def ou:=pN cI fun w=>oi (wa w) (ka w) (cb w)
theorem sM:∀w,ou w=cI:=fu fun w=>by rw[An w,kZ w,cN w];exact(x1 sG)
def de:=pN az fun w=>sf (pH w)
theorem fE:∀w,de w=az:=fu fun w=>by rw[rB w];exact(x1 wM)
def xl:=wG (cJ,dK) fun w x=>(kz x.2 (pH w),kA x.2 x.1)
theorem D4:∀w,xl w=(cJ,dK):=mkLe fun w=>by rw[rB w];exact Prod.ext (ZC nC) ((x16 nD))
def iJ:=pN cp fun w=>sk (xl w).1
theorem kc:∀w,iJ w=cp:=fu fun w=>by rw[D4 w];exact(x2 wU)
def As:=pN mT fun w=>zR (yo w) (Al w) (uy w) (I6 w)
theorem D5:∀w,As w=mT:=fu fun w=>by rw[Ak w,DY w,vt w,Oi w];exact(x2 DF)
def sx:=pN dZ fun w=>sm (de w) (iI w)
theorem xm:∀w,sx w=dZ:=fu fun w=>by rw[fE w,kb w];exact(x2 wV)
def xn:=wG eO fun w x=>tP x (I3 w) (Gh w) (ux w) (As w) (uy w)
theorem D6:∀w,xn w=eO:=mkLe fun w=>by rw[Oh w,Mb w,tf w,D5 w,vt w];exact(x4 Bk)
def sy:=pN gU fun w=>yG (xn w)
theorem Fl:∀w,sy w=gU:=fu fun w=>by rw[D6 w];exact(x2 Fe)
def qm:=wG cz fun w x=>oF x (iJ w) (iI w)
theorem yp:∀w,qm w=cz:=mkLe fun w=>by rw[kc w,kb w];exact(x9 vP)
def mK:=pN dA fun w=>rN (qm w)
theorem qn:∀w,mK w=dA:=fu fun w=>by rw[yp w];exact(x6 yX)
def uz:=wG cZ fun w x=>je x (de w)
theorem Bw:∀w,uz w=cZ:=mkLe fun w=>by rw[fE w];exact(x7 lg)
def pI:=pN dE fun w=>pe (uz w)
theorem uA:∀w,pI w=dE:=fu fun w=>by rw[Bw w];exact(x4 tG)
def a8:=pN ak fun w=>od (As w) (pH w) (aS w) (ux w) (sx w) (iI w)
theorem cD:∀w,a8 w=ak:=fu fun w=>by rw[D5 w,rB w,ck w,tf w,xm w,kb w];exact(x2 sF)
def uB:=wG c0 fun w x=>jf x (iJ w) (iI w)
theorem By:∀w,uB w=c0:=mkLe fun w=>by rw[kc w,kb w];exact(x9 lh)
def jo:=pN ca fun w=>pf (uB w)
theorem kQ:∀w,jo w=ca:=fu fun w=>by rw[By w];exact(x6 tH)
def D7:=wG iN fun w x=>Ae x (iJ w) (iI w)
theorem JQ:∀w,D7 w=iN:=mkLe fun w=>by rw[kc w,kb w];exact(x9 GU)
def At:=pN oD fun w=>Ga (D7 w)
theorem Me:∀w,At w=oD:=fu fun w=>by rw[JQ w];exact(x3 L4)
def oP:=wG (bJ,bK) fun w x=>(nk x.2,np x.2 x.1 (cb w) (a8 w) (aS w))
theorem wc:∀w,oP w=(bJ,bK):=mkLe fun w=>by rw[cN w,cD w,ck w];exact Prod.ext (x7 uf) ((x8 ug))
def pJ:=pN eN fun w=>pA (oP w).1
theorem xo:∀w,pJ w=eN:=fu fun w=>by rw[wc w];exact(x5 xd)
def mL:=pN dx fun w=>rP (jo w)
theorem qo:∀w,mL w=dx:=fu fun w=>by rw[kQ w];exact(x7 yZ)
def Au:=wG gn fun w x=>wX x (a8 w)
theorem GZ:∀w,Au w=gn:=mkLe fun w=>by rw[cD w];exact(x7 DG)
def we:=pN ko fun w=>BQ (Au w)
theorem Av:∀w,we w=ko:=fu fun w=>by rw[GZ w];exact(x3 IM)
def D8:=wG (iR,iS,iT,iU,iV,iW) fun w x=>(zT x.2.1,zY x.2.2.1 x.2.2.2.1,z0 x.2.2.1 x.2.1 (aS w) (a8 w) (de w) (jo w) (we w) (fo w),z1 x.2.2.2.2.1 x.1 (cb w),z2 x.2.2.2.2.2 x.2.2.2.1 (aS w) (a8 w) (de w) (mK w),z3 x.2.2.2.2.2 x.2.2.2.2.1 (a8 w) (aS w) (fi w))
theorem JR:∀w,D8 w=(iR,iS,iT,iU,iV,iW):=mkLe fun w=>by rw[ck w,cD w,fE w,kQ w,Av w,gu w,cN w,qn w,gB w];exact Prod.ext (x7 GJ) (Prod.ext (x8 GK) (Prod.ext (x8 GL) (Prod.ext (x8 GN) (Prod.ext (x8 GO) ((ZC GP))))))
def Gk:=pN tc fun w=>F4 (D8 w).1 (Gg w)
theorem Mf:∀w,Gk w=tc:=fu fun w=>by rw[JR w];rw[Ma w];exact(x5 LZ)
def Gl:=wG (kp,kq) fun w x=>(BS x.2,BT x.2 x.1 (cb w) (iJ w) (sx w) (a8 w))
theorem Mg:∀w,Gl w=(kp,kq):=mkLe fun w=>by rw[cN w,kc w,xm w,cD w];exact Prod.ext (x7 IP) ((x8 IQ))
def I7:=pN wI fun w=>IS (Gl w).1
theorem Oj:∀w,I7 w=wI:=fu fun w=>by rw[Mg w];exact(x5 Ob)
def oQ:=pN dV fun w=>oJ (mK w)
theorem wg:∀w,oQ w=dV:=fu fun w=>by rw[qn w];exact(x7 vX)
def yN:=wG (b8,br,b9) fun w x=>(lN x.2.1,jh x.2.1 x.2.2 (aS w) (nZ w) (sw w) (fo w),lP x.2.2 x.1 (a8 w) (de w) (jo w) (aS w))
theorem Fm:∀w,yN w=(b8,br,b9):=mkLe fun w=>by rw[ck w,q6 w,xk w,gu w,cD w,fE w,kQ w];exact Prod.ext (x5 oo) (Prod.ext (x7 kE) ((x7 oq)))
def Aw:=pN iM fun w=>uc (yN w).1
theorem G0:∀w,Aw w=iM:=fu fun w=>by rw[Fm w];exact(x5 yH)
def D9:=wG (iO,iP,iQ) fun w x=>(zO x.2.1 (cb w) (de w),zP x.2.2 (de w),zQ x.2.2 x.1 x.2.1 (cb w) (aS w) (fo w) (fi w) (I7 w))
theorem JS:∀w,D9 w=(iO,iP,iQ):=mkLe fun w=>by rw[cN w,fE w,ck w,gu w,gB w,Oj w];exact Prod.ext (x7 GG) (Prod.ext (x8 GH) ((x9 GI)))
def Gm:=pN tb fun w=>F2 (D9 w).1 (ux w)
theorem Mh:∀w,Gm w=tb:=fu fun w=>by rw[JS w];rw[tf w];exact(x3 LU)
def qp:=wG (cw,cy) fun w x=>(oG x.1 x.2 (a8 w) (aS w) (de w) (mL w),oH x.2 (cb w) (a8 w) (aS w) (de w) (oQ w))
theorem yq:∀w,qp w=(cw,cy):=mkLe fun w=>by rw[cD w,ck w,fE w,qo w,cN w,wg w];exact Prod.ext (x7 vV) ((x7 vW))
def rW:=pN fD fun w=>rO (qp w).1
theorem y5:∀w,rW w=fD:=fu fun w=>by rw[yq w];exact(x5 yY)
def xp:=wG (bo,bZ) fun w x=>(ij x.1 x.2 (Aw w) (aS w) (pI w) (B4 w),kD x.2 x.1 (a8 w) (de w) (jo w))
theorem Ea:∀w,xp w=(bo,bZ):=mkLe fun w=>by rw[G0 w,ck w,uA w,I5 w,cD w,fE w,kQ w];exact Prod.ext (x6 jI) ((x9 nF))
def yO:=pN eT fun w=>nW (xp w).1 (ou w) (ka w) (cb w)
theorem Fo:∀w,yO w=eT:=fu fun w=>by rw[Ea w];rw[sM w,kZ w,cN w];exact(x1 qQ)
def Ax:=wG (fY,fZ) fun w x=>(w8 x.2,w9 x.2 x.1 (sL w) (rW w) (pJ w) (ux w) (mL w) (aS w) (pI w))
theorem G1:∀w,Ax w=(fY,fZ):=mkLe fun w=>by rw[Ar w,y5 w,xo w,tf w,qo w,ck w,uA w];exact Prod.ext (x7 DN) ((x8 DO))
def B5:=pN oC fun w=>BZ (Ax w).1 (ka w) (I1 w) (cb w)
theorem I8:∀w,B5 w=oC:=fu fun w=>by rw[G1 w];rw[kZ w,Oe w,cN w];exact(x4 IY)
def Ay:=wG (gf,gh,gi,gj,gl) fun w x=>(wN x.1 x.2.1 (Gm w) (nZ w),wO x.2.1 x.2.2.1 (we w) (cb w),wP x.2.2.1 x.2.2.2.1 (Gk w) (sy w),wQ x.2.2.2.2,wR x.2.2.2.2 x.2.2.2.1 (sy w) (a8 w) (iJ w))
theorem G2:∀w,Ay w=(gf,gh,gi,gj,gl):=mkLe fun w=>by rw[Mh w,q6 w,Av w,cN w,Mf w,Fl w,cD w,kc w];exact Prod.ext (x7 DA) (Prod.ext (x8 DB) (Prod.ext (x9 DC) (Prod.ext (x6 DD) ((x8 DE)))))
def B6:=pN oE fun w=>BN (Ay w).1
theorem I9:∀w,B6 w=oE:=fu fun w=>by rw[G2 w];exact(x3 II)
def Az:=wG (fW,fX) fun w x=>(wZ x.1 x.2 (ka w) (At w) (aS w) (a8 w),w6 x.2 (At w) (wb w))
theorem G3:∀w,Az w=(fW,fX):=mkLe fun w=>by rw[kZ w,Me w,ck w,cD w,Aq w];exact Prod.ext (ZC DK) ((x8 DL))
def B7:=pN oB fun w=>BW (Az w).1 (ou w) (yn w) (B5 w)
theorem Ja:∀w,B7 w=oB:=fu fun w=>by rw[G3 w];rw[sM w,B2 w,I8 w];exact(x2 IW)
def xq:=pN jR fun w=>w7 (wa w) (ka w) (B6 w) (wb w)
theorem Eb:∀w,xq w=jR:=fu fun w=>by rw[An w,kZ w,I9 w,Aq w];exact(x1 DM)
def CO:=pN gZ fun w=>uh (yK w) (xq w) (yO w) (B7 w) (yL w)
theorem Bz:∀w,CO w=gZ:=fu fun w=>by rw[Fi w,Eb w,Fo w,Ja w,Fj w];exact Bm.symm
end
end Go.Proofs.Ytcopbdamkjladaa.Ev
namespace Go.Abs
theorem gI {a b:Int}(h:a<b):decide (a<b)=true:=decide_eq_true h
theorem gv {a b:Int}(h:¬a<b):decide (a<b)=false:=decide_eq_false h
theorem UU {a b:Int}(h:a>b):decide (a>b)=true:=decide_eq_true h
theorem XO {a b:Int}(h:¬a>b):decide (a>b)=false:=decide_eq_false h
theorem Re {a b:Int}(h:a≥b):decide (a≥b)=true:=decide_eq_true h
theorem Ok {a b:Int}(h:¬a≥b):decide (a≥b)=false:=decide_eq_false h
theorem XP {a b:Int}(h:a=b):(a==b)=true:=beq_iff_eq.2 h
theorem KP {a b:Int}(h:¬a=b):(a==b)=false:=by simpa using h
theorem UW {a b:Int}(h:¬a=b):(a != b)=true:=by simpa [bne] using h
theorem UX {a b:Int}(h:a=b):(a != b)=false:=by simp[bne,h]
theorem kd {xs:List Int}{i:Int}(h0:0≤i)(h:i<xs.length):idx xs i=some (xs.getD i.toNat 0):=by
 obtain⟨n,rfl⟩:=Int.eq_ofNat_of_zero_le h0;show xs[n]? =_;have:n<xs.length:=by omega
 simp[List.getD,this]
theorem Jb {xs:List Int}{k:Nat}(h:k<xs.length):xs[k]? =some (xs.getD k 0):=by simp[List.getD,h]
theorem WY {α:Type}(d:α){xs:List α}{i:Int}(h0:0≤i)(h:i<xs.length):idx xs i=some (xs.getD i.toNat d):=by
 obtain⟨n,rfl⟩:=Int.eq_ofNat_of_zero_le h0;show xs[n]? =_;have:n<xs.length:=by omega
 simp[List.getD,this]
theorem n5 {b s n m:Nat}(h0:0<s)(h:(n+m)*b≤140737488355328):bj b s n m=true:=by unfold bj;rw[Bool.and_eq_true];exact⟨Nat.ble_eq_true_of_le h0,Nat.ble_eq_true_of_le h⟩
theorem uC {b:Nat}{l c:Int}(h0:0≤l)(h1:l≤c)(h2:(b:Int)*c≤140737488355328):fP b l c=true:=by unfold fP;simp[h0,h1,h2]
theorem Rf {n:Nat}{l h:Int}(h0:0≤l)(h1:l≤h)(h2:h≤n):nc n l h=true:=by unfold nc;simp[h0,h1,h2]
def val (B:Int):List Int→Int
 | []=>0
 |x::xs=>x+B*val B xs
def fp (B:Int)(d:List Int):Prop:=∀x∈d,0≤x∧x<B
theorem fp.nil {B:Int}:fp B []:=fun x h=>by cases h
theorem fp.cons {B x:Int}{d:List Int}(h0:0≤x)(h1:x<B)(h:fp B d):fp B (x::d):=fun y hy=>by
 rcases List.mem_cons.1 hy with rfl |hy
 ·exact⟨h0,h1⟩
 ·exact h y hy
theorem fp.head {B x:Int}{d:List Int}(h:fp B (x::d)):0≤x∧x<B:=h x (by simp)
theorem fp.tail {B x:Int}{d:List Int}(h:fp B (x::d)):fp B d:=fun y hy=>h y (by simp[hy])
theorem fp.append {B:Int}{d e:List Int}(h1:fp B d)(h2:fp B e):fp B (d++e):=fun y hy=>by
 rcases List.mem_append.1 hy with hy |hy
 ·exact h1 y hy
 ·exact h2 y hy
theorem fp.left {B:Int}{d e:List Int}(h:fp B (d++e)):fp B d:=fun y hy=>h y (by simp[hy])
theorem fp.right {B:Int}{d e:List Int}(h:fp B (d++e)):fp B e:=fun y hy=>h y (by simp[hy])
theorem fp.drop {B:Int}{d:List Int}(h:fp B d)(k:Nat):fp B (d.drop k):=fun y hy=>h y (List.mem_of_mem_drop hy)
theorem fp.take {B:Int}{d:List Int}(h:fp B d)(k:Nat):fp B (d.take k):=fun y hy=>h y (List.mem_of_mem_take hy)
theorem fp.getD {B:Int}{d:List Int}(h:fp B d)(hB:0<B)(k:Nat):0≤d.getD k 0∧d.getD k 0<B:=by
 by_cases hk:k<d.length
 ·have:d.getD k 0=d[k]:=by simp[List.getD,hk]
  rw[this];exact h _ (List.getElem_mem hk)
 ·have:d.getD k 0=0:=by have h':d[k]? =none:=List.getElem?_eq_none (by omega);simp[List.getD,h']
  rw[this];exact⟨by omega,hB⟩
theorem fp.replicate {B:Int}(hB:0<B)(n:Nat):fp B (List.replicate n 0):=fun y hy=>by obtain⟨_,rfl⟩:=List.mem_replicate.1 hy;exact⟨by omega,hB⟩
theorem fp.set {B x:Int}{d:List Int}(h:fp B d)(h0:0≤x)(h1:x<B)(k:Nat):fp B (d.set k x):=fun y hy=>by
 rcases List.mem_or_eq_of_mem_set hy with hy |rfl
 ·exact h y hy
 ·exact⟨h0,h1⟩
theorem jz {B:Int}(hB:0≤B):∀{d:List Int},fp B d→0≤val B d
 | [],_=>by simp[val]
 |x::d,h=>by have h1:=h.head.1;have h2:=jz hB h.tail;have:=Int.mul_nonneg hB h2;simp only[val];omega
theorem fj (B:Int):∀(d e:List Int),val B (d++e)=val B d+B^d.length*val B e
 | [],e=>by simp[val]
 |x::d,e=>by simp only[List.cons_append,val,fj B d e,List.length_cons,Int.pow_succ,Int.mul_add];rw[←Int.mul_assoc,Int.mul_comm B (B^d.length)];omega
theorem B8 (B:Int)(n:Nat):val B (List.replicate n 0)=0:=by
 induction n with
 |zero=>rfl
 |succ n ih=>rw[List.replicate_succ,val,ih];simp
theorem sA {B:Int}(hB:0<B):∀{d:List Int},fp B d→val B d<B^d.length
 | [],_=>by simp[val]
 |x::d,h=>by have h1:=h.head.2;have h2:=sA hB h.tail;have h3:B*(val B d+1)≤B*B^d.length:=Int.mul_le_mul_of_nonneg_left (by omega) (by omega);simp only[val,List.length_cons,Int.pow_succ];rw[Int.mul_comm (B^d.length) B];rw[Int.mul_add] at h3;omega
def ke:List Int→List Int
 | []=>[]
 |x::xs=>match ke xs with
  | []=>if x=0 then [] else [x]
  |y::ys=>x::y::ys
theorem vv:∀d:List Int,ke (d++[0])=ke d
 | []=>rfl
 |x::d=>by simp only[List.cons_append,ke,vv d]
theorem uD {y:Int}(hy:y≠0):∀d:List Int,ke (d++[y])=d++[y]
 | []=>by simp[ke,hy]
 |x::d=>by simp only[List.cons_append,ke,uD hy d];cases d<;>rfl
theorem yr:∀d:List Int,(ke d).length≤d.length
 | []=>Nat.le_refl _
 |x::d=>by
  have:=yr d;simp only[ke];split
  ·split<;>simp
  ·rename_i y ys h;rw[h] at this;simp at this ⊢;omega
def KQ (B:Nat)(n:Nat):List Int:=if h:n=0∨B≤1 then [] else ((n % B:Nat):Int)::KQ B (n / B)
termination_by n
decreasing_by exact Nat.div_lt_self (by omega) (by omega)
theorem eQ (B:Nat):KQ B 0=[]:=by rw[KQ];simp
theorem sX {B n:Nat}(hB:1<B)(hn:0<n):KQ B n=((n % B:Nat):Int)::KQ B (n / B):=by rw[KQ,dif_neg (by omega)]
theorem ov {B n:Nat}(hB:1<B):KQ B n=[]↔n=0:=by
 constructor
 ·intro h;by_cases hn:n=0
  ·exact hn
  ·rw[sX hB (by omega)] at h;cases h
 ·rintro rfl;exact eQ B
theorem Mi {B:Nat}(hB:1<B):∀n,fp B (KQ B n):=by
 intro n;induction n using Nat.strongRecOn with
 |ind n ih=>
  by_cases hn:n=0
  ·subst hn;rw[eQ];exact fp.nil
  ·rw[sX hB (by omega)];have:=Nat.mod_lt n (show B>0 by omega);exact fp.cons (by omega) (by omega) (ih _ (Nat.div_lt_self (by omega) hB))
theorem Mj {B:Nat}(hB:1<B):∀n,val B (KQ B n)=n:=by
 intro n;induction n using Nat.strongRecOn with
 |ind n ih=>
  by_cases hn:n=0
  ·subst hn;rw[eQ];rfl
  ·rw[sX hB (by omega),val,ih _ (Nat.div_lt_self (by omega) hB)];have:=Nat.mod_add_div n B;omega
theorem xu {B:Nat}(hB:1<B):∀d:List Int,fp B d→ke d=KQ B (val B d).toNat
 | [],_=>by simp[ke,val,eQ]
 |x::d,h=>by
  have ih:=xu hB d h.tail;have hx:=h.head;have hv:=jz (B:=B) (by omega) h.tail;obtain⟨v,SV⟩:=Int.eq_ofNat_of_zero_le hv;obtain⟨a,rfl⟩:=Int.eq_ofNat_of_zero_le hx.1;have hab:a<B:=by omega
  simp only[ke,val,SV];rw[SV] at ih;have e:((a:Int)+(B:Int)*(v:Int)).toNat=a+B*v:=by rw[←Int.natCast_mul, ←Int.natCast_add];exact Int.toNat_natCast _
  rw[e];simp only[Int.toNat_natCast] at ih;by_cases Wl:v=0
  ·subst Wl;rw[eQ] at ih;rw[ih];simp only;by_cases ha:a=0
   ·subst ha;simp[eQ]
   ·rw[sX hB (by omega)];have h1:(a+B*0) % B=a:=by simp[Nat.mod_eq_of_lt hab]
    have h2:(a+B*0) / B=0:=by simp[Nat.div_eq_of_lt hab]
    rw[h1,h2,eQ,if_neg (by omega)]
  ·have hpos:0<a+B*v:=by have:0<B*v:=Nat.mul_pos (by omega) (by omega);omega
   rw[sX hB hpos];have h1:(a+B*v) % B=a:=by rw[Nat.add_mul_mod_self_left,Nat.mod_eq_of_lt hab]
   have h2:(a+B*v) / B=v:=by rw[Nat.add_mul_div_left _ _ (by omega:0<B),Nat.div_eq_of_lt hab];omega
   rw[h1,h2,ih];have hne:KQ B v≠ []:=fun e=>Wl ((ov hB).1 e);split
   ·rename_i e;exact absurd e hne
   ·rename_i y ys e;rw[e]
theorem P3 {B:Nat}(hB:1<B){d:List Int}(h:fp B d)(ht:ke d=d):d=KQ B (val B d).toNat:=by rw[←xu hB d h,ht]
theorem Mk {B:Nat}(hB:1<B)(n:Nat):ke (KQ B n)=KQ B n:=by rw[xu hB _ (Mi hB n),Mj hB];rfl
theorem bg {B:Nat}(hB:1<B):∀(k n:Nat),(KQ B n).length≤k↔n<B^k
 |0,n=>by
  rw[Nat.pow_zero];constructor
  ·intro h;have:=(ov (n:=n) hB).1 (List.length_eq_zero_iff.1 (Nat.le_zero.1 h));omega
  ·intro h;have:n=0:=by omega
   subst this;simp[eQ]
 |k+1,n=>by
  by_cases hn:n=0
  ·subst hn;simp only[eQ,List.length_nil];exact⟨fun _=>Nat.pow_pos (by omega),fun _=>by omega⟩
  ·rw[sX hB (by omega),List.length_cons];have:=bg hB k (n / B);rw[Nat.pow_succ, ←Nat.div_lt_iff_lt_mul (by omega)];omega
theorem gX {B:Nat}(hB:1<B)(k n:Nat):k<(KQ B n).length↔B^k≤n:=by have:=bg hB k n;omega
theorem mZ (l:List Int)(k j:Nat):(l.drop k).getD j 0=l.getD (k+j) 0:=by simp[List.getD,List.getElem?_drop]
theorem drop_eq {l:List Int}{k:Nat}(h:k<l.length):l.drop k=l.getD k 0::l.drop (k+1):=by rw[List.drop_eq_getElem_cons h];simp[List.getD,h]
theorem drop_nil {l:List Int}{k:Nat}(h:l.length≤k):l.drop k=[]:=List.drop_eq_nil_of_le h
theorem getD_none {l:List Int}{k:Nat}(h:l.length≤k):l.getD k 0=0:=by have h':l[k]? =none:=List.getElem?_eq_none (by omega);simp[List.getD,h']
theorem aaI {α:Type}(d:List α)(h:Int):cut d 0 h=d.take h.toNat:=by simp[cut]
theorem fL {a b:Int}(h:0≤a):a.tmod b=a % b:=Int.tmod_eq_emod_of_nonneg h
theorem jL {a b:Int}(h:0≤a):a.tdiv b=a / b:=Int.tdiv_eq_ediv_of_nonneg h
theorem eH {l:List Int}{k:Nat}(h:k<l.length):l.take (k+1)=l.take k++[l.getD k 0]:=by rw[List.take_add_one];simp[List.getD,h]
def nS (x y:Int):Int:=if x<y then -1 else if y<x then 1 else 0
theorem n6 {x y:Int}(h:x<y):nS x y= -1:=by unfold nS;rw[if_pos h]
theorem sY {x y:Int}(h:y<x):nS x y=1:=by unfold nS;rw[if_neg (by omega),if_pos h]
theorem Hi {x y:Int}(h:x=y):nS x y=0:=by unfold nS;rw[if_neg (by omega),if_neg (by omega)]
theorem CP {x y:Int}:nS x y<0↔x<y:=by
 unfold nS;by_cases h1:x<y
 ·rw[if_pos h1];omega
 ·rw[if_neg h1];split<;>omega
theorem Ml {B:Int}(hB:0<B){d e:List Int}{x y:Int}(hd:fp B d)(he:fp B e)(hl:d.length=e.length)(h:x<y):val B (d++[x])<val B (e++[y]):=by
 rw[fj,fj];have h1:=sA hB hd;have h2:=jz (by omega) he;rw[hl] at h1 ⊢;have h3:B^e.length*(x+1)≤B^e.length*y:=Int.mul_le_mul_of_nonneg_left (by omega) (Int.pow_nonneg (by omega));rw[Int.mul_add] at h3;simp only[val];simp only[Int.mul_zero,Int.add_zero] at*
 omega
section
variable {α β:Type}{x y:α}{a b:Int}
theorem cT (x y:α):(bif true then x else y)=x:=(cond_true x y).trans (Eq.refl x)
theorem cF (x y:α):(bif false then x else y)=y:=(cond_false x y).trans (Eq.refl y)
theorem bS (z:α)(f:α→Option β):(some z).bind f=f z:=(Option.bind_some z f).trans (Eq.refl _)
theorem V3 {c:Bool}(h:c=true):(bif c then x else y)=x:=by rw[h];exact cT _ _
theorem WZ {c:Bool}(h:c=false):(bif c then x else y)=y:=by rw[h];exact cF _ _
theorem aO (h:a<b):(bif decide (a<b) then x else y)=x:=V3 (gI h)
theorem aY (h:¬a<b):(bif decide (a<b) then x else y)=y:=WZ (gv h)
theorem lR (h:a>b):(bif decide (a>b) then x else y)=x:=V3 (UU h)
theorem lS (h:¬a>b):(bif decide (a>b) then x else y)=y:=WZ (XO h)
theorem Jc (h:a≥b):(bif decide (a≥b) then x else y)=x:=V3 (Re h)
theorem Gn (h:¬a≥b):(bif decide (a≥b) then x else y)=y:=WZ (Ok h)
theorem yP (h:a=b):(bif a==b then x else y)=x:=V3 (XP h)
theorem xv (h:¬a=b):(bif a==b then x else y)=y:=WZ (KP h)
theorem Ol (h:¬a=b):(bif !(a==b) then x else y)=x:=V3 (by rw[KP h];exact Eq.refl _)
theorem vw (h:¬a=b):(bif a != b then x else y)=x:=V3 (UW h)
theorem pK (h:a=b):(bif a != b then x else y)=y:=WZ (UX h)
theorem pL {p s n m:Nat}(h0:0<s)(h:(n+m)*p≤140737488355328):(bif bj p s n m then x else y)=x:=V3 (n5 h0 h)
theorem Jd {p:Nat}{l c:Int}(h0:0≤l)(h1:l≤c)(h2:(p:Int)*c≤140737488355328):(bif fP p l c then x else y)=x:=V3 (uC h0 h1 h2)
theorem W0 {n:Nat}{l h:Int}(h0:0≤l)(h1:l≤h)(h2:h≤n):(bif nc n l h then x else y)=x:=V3 (Rf h0 h1 h2)
theorem oU {xs:List Int}{i:Int}{f:Int→Option β}(h0:0≤i)(h:i<xs.length):(idx xs i).bind f=f (xs.getD i.toNat 0):=by rw[kd h0 h];exact bS _ _
theorem y6 {xs:List Int}{k:Nat}{f:Int→Option β}(h:k<xs.length):(xs[k]?).bind f=f (xs.getD k 0):=by rw[Jb h];exact bS _ _
end
end Go.Abs
namespace Go.Proofs.Ytcopbdamkjladaa.Ev
open Go.Abs Go.IntWalk
abbrev VU (d:List Int):Int:=val 1000000000 d
abbrev DU (d:List Int):Prop:=fp 1000000000 d
abbrev dU (n:Nat):List Int:=KQ 1000000000 n
theorem wh (n:Nat):DU (dU n):=Mi (B:=1000000000) (by omega) n
theorem sZ (n:Nat):VU (dU n)=n:=Mj (B:=1000000000) (by omega) n
theorem UY {d:List Int}(h:DU d):ke d=dU (VU d).toNat:=xu (B:=1000000000) (by omega) d h
theorem m4 {d:List Int}(h:DU d):0≤VU d:=jz (by omega) h
def W (z:Int):Bool×List Int×Unit:=(decide (z<0),dU z.natAbs,())
theorem SW:∀(n:Nat) (d:List Int),d.length=n→n≤1000000000000000→iY d=some (ke d):=by
 intro n;induction n with
 |zero=>intro d hd hn;have:d=[]:=List.length_eq_zero_iff.1 hd;subst this;rw[tT,rk];rfl
 |succ n ih=>
  intro d hd hn;obtain⟨d',y,rfl⟩:∃d' y,d=d'++[y]:=by
   have hne:d≠ []:=fun e=>by rw[e] at hd;cases hd
   exact⟨d.dropLast,d.getLast hne,(List.dropLast_concat_getLast hne).symm⟩
  have hl:d'.length=n:=by simpa using hd
  have hy:(d'++[y]).getD d'.length 0=y:=by simp[List.getD]
  have ht:(d'++[y]).take d'.length=d':=by simp
  rw[tT,rk];simp only[List.length_append,List.length_cons,List.length_nil];simp (disch:=omega) only[i64_in,UU,cond_true,Rf,aaI];rw[kd (by omega) (by simp;omega)];have e:(((d'.length+(0+1):Nat):Int) - 1).toNat=d'.length:=by omega
  rw[e,hy,ht];simp only[Option.bind_some];by_cases h0:y=0
  ·subst h0;rw[vv,ih d' hl (by omega)];rfl
  ·rw[KP h0,uD h0];rfl
theorem AA {d:List Int}(h:d.length≤1000000000000000):jT d=some (ke d):=by rw[F6,Cw];exact SW _ d rfl h
theorem jA {neg:Bool}{d:List Int}(hd:DU d)(h:d.length≤1000000000000000):eD neg d=some (W (bif neg then -VU d else VU d)):=by
 rw[BO,yd,AA h,UY hd];have hv:=m4 hd;obtain⟨v,SV⟩:=Int.eq_ofNat_of_zero_le hv;rw[SV];simp only[Option.bind_some,Int.toNat_natCast];have hl:(0<(dU v).length)↔0<v:=by have:=gX (B:=1000000000) (by omega) 0 v;rw[Nat.pow_zero] at this;exact this
 cases neg with
 |true=>have e:decide (((dU v).length:Int)>0)=decide (-(v:Int)<0):=decide_eq_decide.2 ⟨fun h=>by have:=hl.1 (by omega);omega,fun h=>by have:=hl.2 (by omega);omega⟩;simp only[cond_true,W,Int.natAbs_neg,Int.natAbs_natCast,e]
 |false=>simp only[cond_false,W,Int.natAbs_natCast];rw[gv (by omega)]
def vx:List Int→List Int→Int→List Int
 | [],_,c=>[c]
 |x::xs,[],c=>(x+c) % 1000000000::vx xs [] ((x+c) / 1000000000)
 |x::xs,y::ys,c=>(x+c+y) % 1000000000::vx xs ys ((x+c+y) / 1000000000)
theorem KR {a b:List Int}(ha:DU a)(hb:DU b)(hl:a.length≤1000000000000):∀(m k:Nat) (c:Int) (out:List Int),m+k=a.length→out.length=k→0≤c→c≤1→
  iZ b c a a.length k out=some (out++vx (a.drop k) (b.drop k) c):=by
 intro m;induction m with
 |zero=>intro k c out hk ho h0 h1;rw[tY,rA];simp (disch:=omega) only[gv,cond_false,n5,cond_true,drop_nil,vx]
 |succ m ih=>
  intro k c out hk ho h0 h1;have hx:=ha.getD (by omega) k;have hy:=hb.getD (by omega) k;rw[tY,rA];simp (disch:=omega) only[gI,cond_true,kd,Option.bind_some,Int.toNat_natCast];rw[drop_eq (show k<a.length by omega)];by_cases P4:k<b.length
  ·rw[drop_eq P4];have pM:=fun c out=>ih (k+1) c out (by omega);simp only[Int.natCast_add,Int.natCast_one] at pM;simp (disch:=omega) only[gI,cond_true,kd,Option.bind_some,Int.toNat_natCast,u32_in,u32_quo,fL,n5,i64_in];rw[pM _ _ (by simp;omega) (by omega) (by omega)];simp[vx]
  ·rw[drop_nil (show b.length≤k by omega)];have pM:=fun c out=>ih (k+1) c out (by omega);simp only[Int.natCast_add,Int.natCast_one] at pM;simp (disch:=omega) only[gv,cond_false,cond_true,Option.bind_some,Int.toNat_natCast,u32_in,u32_quo,fL,n5,i64_in];rw[pM _ _ (by simp;omega) (by omega) (by omega),drop_nil (show b.length≤k+1 by omega)];simp[vx]
theorem A3:∀(a b:List Int) (c:Int),b.length≤a.length→DU a→DU b→0≤c→c≤1→
  VU (vx a b c)=VU a+VU b+c∧DU (vx a b c)∧(vx a b c).length=a.length+1
 | [],[],c,hl,ha,hb,h0,h1=>by simp only[vx];refine⟨by simp[VU,val],fp.cons (by omega) (by omega) fp.nil,by simp⟩
 | [],y::ys,c,hl,ha,hb,h0,h1=>by simp at hl
 |x::xs,[],c,hl,ha,hb,h0,h1=>by have hx:=ha.head;obtain⟨e1,e2,e3⟩:=A3 xs [] ((x+c) / 1000000000) (by simp) ha.tail fp.nil (by omega) (by omega);simp only[vx];refine⟨?_,fp.cons (by omega) (by omega) e2,by simp[e3]⟩;simp only[VU,val] at e1 ⊢;rw[e1];omega
 |x::xs,y::ys,c,hl,ha,hb,h0,h1=>by have hx:=ha.head;have hy:=hb.head;obtain⟨e1,e2,e3⟩:=A3 xs ys ((x+c+y) / 1000000000) (by simp at hl;omega) ha.tail hb.tail (by omega) (by omega);simp only[vx];refine⟨?_,fp.cons (by omega) (by omega) e2,by simp[e3]⟩;simp only[VU,val] at e1 ⊢;rw[e1];omega
theorem On {a b:List Int}(ha:DU a)(hb:DU b)(hl:a.length≤1000000000000)(hl':b.length≤1000000000000):
  ∃r,tE a b=some r∧VU r=VU a+VU b∧DU r∧r.length≤max a.length b.length+1:=by
 by_cases h:a.length<b.length
 ·obtain⟨e1,e2,e3⟩:=A3 b a 0 (by omega) hb ha (by omega) (by omega);refine⟨vx b a 0, ?_,by omega,e2,by omega⟩;rw[z5,ye];have:=KR hb ha hl' b.length 0 0 [] (by omega) rfl (by omega) (by omega);simp (disch:=omega) only[gI,cond_true,i64_in,uC];simpa using this
 ·obtain⟨e1,e2,e3⟩:=A3 a b 0 (by omega) ha hb (by omega) (by omega);refine⟨vx a b 0, ?_,by omega,e2,by omega⟩;rw[z5,ye];have:=KR ha hb hl a.length 0 0 [] (by omega) rfl (by omega) (by omega);simp (disch:=omega) only[gv,cond_false,cond_true,i64_in,uC];simpa using this
def kf:List Int→List Int→Int→List Int
 | [],_,_=>[]
 |x::xs,[],c=>if x<c then (x+1000000000 - c)::kf xs [] 1 else (x - c)::kf xs [] 0
 |x::xs,y::ys,c=>if x<c+y then (x+1000000000 - (c+y))::kf xs ys 1 else (x - (c+y))::kf xs ys 0
theorem P5 {a b:List Int}(ha:DU a)(hb:DU b)(hl:a.length≤1000000000000):∀(m k:Nat) (c:Int) (out:List Int),m+k=a.length→out.length=k→0≤c→c≤1→
  gO b c a a.length k out=some (out++kf (a.drop k) (b.drop k) c):=by
 intro m;induction m with
 |zero=>intro k c out hk ho h0 h1;rw[sq,pn];simp (disch:=omega) only[gv,cond_false,drop_nil,kf,List.append_nil]
 |succ m ih=>
  intro k c out hk ho h0 h1;have hx:=ha.getD (by omega) k;have hy:=hb.getD (by omega) k;have pM:=fun c out=>ih (k+1) c out (by omega);simp only[Int.natCast_add,Int.natCast_one] at pM;rw[sq,pn];simp (disch:=omega) only[gI,cond_true,kd,Option.bind_some,Int.toNat_natCast];rw[drop_eq (show k<a.length by omega)];by_cases P4:k<b.length
  ·rw[drop_eq P4];by_cases hlt:a.getD k 0<c+b.getD k 0
   ·simp (disch:=omega) only[gI,cond_true,kd,Option.bind_some,Int.toNat_natCast,u32_in,n5,i64_in];rw[pM _ _ (by simp;omega) (by omega) (by omega)];simp only[kf,if_pos hlt];simp
   ·simp (disch:=omega) only[gI,cond_true,kd,Option.bind_some,Int.toNat_natCast,u32_in,n5,i64_in];rw[gv hlt];simp (disch:=omega) only[cond_false,cond_true,u32_in,n5,i64_in];rw[pM _ _ (by simp;omega) (by omega) (by omega)];simp only[kf,if_neg hlt];simp
  ·rw[drop_nil (show b.length≤k by omega)];have hd:b.drop (k+1)=[]:=drop_nil (by omega);rw[gv (show ¬(k:Int)<b.length by omega)];by_cases hlt:a.getD k 0<c
   ·simp (disch:=omega) only[gI,cond_false,cond_true,u32_in,n5,i64_in];rw[pM _ _ (by simp;omega) (by omega) (by omega),hd];simp only[kf,if_pos hlt];simp
   ·rw[gv hlt];simp (disch:=omega) only[cond_false,cond_true,u32_in,n5,i64_in];rw[pM _ _ (by simp;omega) (by omega) (by omega),hd];simp only[kf,if_neg hlt];simp
theorem yt:∀(a b:List Int) (c:Int),b.length≤a.length→DU a→DU b→0≤c→c≤1→
  ∃c',0≤c'∧VU (kf a b c)=VU a - VU b - c+c'*1000000000^a.length∧DU (kf a b c)∧(kf a b c).length=a.length
 | [],[],c,hl,ha,hb,h0,h1=>⟨c,h0,by simp[kf,VU,val];omega,fp.nil,rfl⟩
 | [],y::ys,c,hl,ha,hb,h0,h1=>by simp at hl
 |x::xs,[],c,hl,ha,hb,h0,h1=>by
  have hx:=ha.head;have key:∀d:Int,(0≤d∧d≤1)→∃c',0≤c'∧VU (kf xs [] d)=VU xs - d+c'*1000000000^xs.length∧DU (kf xs [] d)∧(kf xs [] d).length=xs.length:=fun d hd=>by obtain⟨c',h2,h3,h4,h5⟩:=yt xs [] d (by simp) ha.tail fp.nil hd.1 hd.2;exact⟨c',h2,by simpa [VU,val] using h3,h4,h5⟩
  simp only[kf];split
  ·obtain⟨c',h2,h3,h4,h5⟩:=key 1 ⟨by omega,by omega⟩;refine⟨c',h2, ?_,fp.cons (by omega) (by omega) h4,by simp[h5]⟩;simp only[VU,val,List.length_cons,Int.pow_succ] at h3 ⊢;rw[←Int.mul_assoc,h3];omega
  ·obtain⟨c',h2,h3,h4,h5⟩:=key 0 ⟨by omega,by omega⟩;refine⟨c',h2, ?_,fp.cons (by omega) (by omega) h4,by simp[h5]⟩;simp only[VU,val,List.length_cons,Int.pow_succ] at h3 ⊢;rw[←Int.mul_assoc,h3];omega
 |x::xs,y::ys,c,hl,ha,hb,h0,h1=>by
  have hx:=ha.head;have hy:=hb.head;simp only[kf];split
  ·obtain⟨c',h2,h3,h4,h5⟩:=yt xs ys 1 (by simp at hl;omega) ha.tail hb.tail (by omega) (by omega);refine⟨c',h2, ?_,fp.cons (by omega) (by omega) h4,by simp[h5]⟩;simp only[VU,val,List.length_cons,Int.pow_succ] at h3 ⊢;rw[←Int.mul_assoc,h3];omega
  ·obtain⟨c',h2,h3,h4,h5⟩:=yt xs ys 0 (by simp at hl;omega) ha.tail hb.tail (by omega) (by omega);refine⟨c',h2, ?_,fp.cons (by omega) (by omega) h4,by simp[h5]⟩;simp only[VU,val,List.length_cons,Int.pow_succ] at h3 ⊢;rw[←Int.mul_assoc,h3];omega
theorem Ec {a b:List Int}(ha:DU a)(hb:DU b)(hl:a.length≤1000000000000)(hba:b.length≤a.length)(hv:VU b≤VU a):
  ∃r,qG a b=some r∧VU r=VU a - VU b∧DU r∧r.length=a.length:=by
 obtain⟨c',h1,h2,h3,h4⟩:=yt a b 0 hba ha hb (by omega) (by omega);refine⟨kf a b 0, ?_, ?_,h3,h4⟩
 ·rw[DJ,z6];have:=P5 ha hb hl a.length 0 0 [] (by omega) rfl (by omega) (by omega);simp (disch:=omega) only[cond_true,uC];simpa using this
 · -- zw last borrow is none:else zw value aeg be too aei
   have h5:=sA (B:=1000000000) (by omega) h3;have h6:=m4 hb;have h7:=m4 ha;rw[h4] at h5;by_cases hc:c'=0
   ·subst hc;simp at h2;omega
   ·exfalso;have hp:(0:Int)≤1000000000^a.length:=Int.pow_nonneg (by omega);have h8:1*(1000000000:Int)^a.length≤c'*1000000000^a.length:=Int.mul_le_mul_of_nonneg_right (by omega) hp;rw[Int.one_mul] at h8;simp only[VU] at*
    omega
theorem SX {a b:List Int}(ha:DU a)(hb:DU b)(hl:a.length=b.length)(hl':a.length≤1000000000000):∀(k:Nat),k≤a.length→
  iX a b ((k:Int) - 1)=some (nS (VU (a.take k)) (VU (b.take k))):=by
 intro k;induction k with
 |zero=>intro hk;rw[tR,rj];simp (disch:=omega) only[Ok,cond_false];simp[nS]
 |succ k ih=>
  intro hk;rw[tR,rj];have e:((k+1:Nat):Int) - 1=k:=by omega
  rw[e,eH (show k<a.length by omega),eH (show k<b.length by omega)];simp (disch:=omega) only[Re,cond_true,kd,Option.bind_some,Int.toNat_natCast,i64_in];have YY:(a.take k).length=(b.take k).length:=by simp;omega
  by_cases h:a.getD k 0=b.getD k 0
  ·rw[UX h,ih (by omega)];simp only[cond_false,VU,fj,YY,h];generalize (1000000000:Int)^(b.take k).length*val 1000000000 [b.getD k 0]=z;by_cases h1:val 1000000000 (a.take k)<val 1000000000 (b.take k)
   ·rw[n6 h1,n6 (by omega)]
   ·by_cases h2:val 1000000000 (b.take k)<val 1000000000 (a.take k)
    ·rw[sY h2,sY (by omega)]
    ·rw[Hi (by omega),Hi (by omega)]
  ·rw[UW h];simp only[cond_true];by_cases h1:a.getD k 0<b.getD k 0
   ·rw[gI h1];rw[n6 (Ml (by omega) (ha.take k) (hb.take k) YY h1)];rfl
   ·rw[gv h1];rw[sY (Ml (by omega) (hb.take k) (ha.take k) YY.symm (by omega))];rfl
theorem vy {m n:Nat}(hm:(dU m).length≤1000000000000)(hn:(dU n).length≤1000000000000):l4 (dU m) (dU n)=some (nS m n):=by
 rw[F5,Cv];by_cases h:(dU m).length=(dU n).length
 ·have:=SX (wh m) (wh n) h hm (dU m).length (Nat.le_refl _);rw[UX (by omega)];simp (disch:=omega) only[cond_false,i64_in];rw[this,h,List.take_length];rw[←h,List.take_length,sZ,sZ]
 ·rw[UW (by omega)];have l1:=(bg (B:=1000000000) (by omega) (dU m).length m).1 (Nat.le_refl _);have l2:=(bg (B:=1000000000) (by omega) (dU n).length n).1 (Nat.le_refl _);simp only[cond_true];by_cases h1:(dU m).length<(dU n).length
  ·rw[gI (by omega)];have:=(gX (B:=1000000000) (by omega) (dU m).length n).1 h1;rw[n6 (by omega)];rfl
  ·rw[gv (by omega)];have:=(gX (B:=1000000000) (by omega) (dU n).length m).1 (show (dU n).length<(dU m).length by omega);rw[sY (by omega)];rfl
theorem Rg {m n:Nat}(h:m≤n):(dU m).length≤(dU n).length:=by have l2:=(bg (B:=1000000000) (by omega) (dU n).length n).1 (Nat.le_refl _);exact(bg (B:=1000000000) (by omega) (dU n).length m).2 (by omega)
def Ln (z:Int):Nat:=(dU z.natAbs).length
theorem tg (z:Int)(k:Nat):Ln z≤k↔z.natAbs<1000000000^k:=bg (B:=1000000000) (by omega) k z.natAbs
theorem Rh (z:Int):z.natAbs<1000000000^Ln z:=(tg z _).1 (Nat.le_refl _)
theorem Ri {x y:Int}(h:x.natAbs≤y.natAbs):Ln x≤Ln y:=Rg h
theorem YZ (z:Int):Ln (-z)=Ln z:=by unfold Ln;rw[Int.natAbs_neg]
theorem Y0 (x y:Int):Ln (x*y)≤Ln x+Ln y:=by rw[tg,Int.natAbs_mul,Nat.pow_add];have h1:=Rh x;have h2:=Rh y;exact Nat.mul_lt_mul'' h1 h2
theorem UZ {x:Int}(h:x.natAbs<1000000000):Ln x≤1:=by rw[tg];omega
theorem Rj (z:Int):((W z).1,((W z).2.1,()))=W z:=rfl
theorem Y1 (z:Int):(W z).1=decide (z<0):=rfl
theorem Y2 (z:Int):(W z).2.1=dU z.natAbs:=rfl
theorem fk (z:Int):(dU z.natAbs).length=Ln z:=rfl
theorem m5 {x y:Int}(hx:Ln x≤100000000000)(hy:Ln y≤100000000000):bp (W x) (W y)=some (W (x+y)):=by
 rw[wW,sn];simp only[Y1,Y2];by_cases hs:decide (x<0)=decide (y<0)
 ·obtain⟨r,e,v,d,l⟩:=On (wh x.natAbs) (wh y.natAbs) (show (dU x.natAbs).length≤_ by rw[fk];omega) (show (dU y.natAbs).length≤_ by rw[fk];omega);rw[fk,fk] at l;rw[show (decide (x<0)==decide (y<0))=true by rw[hs];simp];simp only[cond_true,e,Option.bind_some,jA d (show r.length≤1000000000000000 by omega)];rw[sZ,sZ] at v;have hs':=decide_eq_decide.1 hs;by_cases h:x<0
  ·rw[gI h,v];have:(bif true then -((x.natAbs:Int)+(y.natAbs:Int)) else ((x.natAbs:Int)+(y.natAbs:Int)))=x+y:=by simp only[cond_true];omega
   rw[this]
  ·rw[gv h,v];have:(bif false then -((x.natAbs:Int)+(y.natAbs:Int)) else ((x.natAbs:Int)+(y.natAbs:Int)))=x+y:=by simp only[cond_false];omega
   rw[this]
 ·have hs':¬(x<0↔y<0):=fun e=>hs (decide_eq_decide.2 e);rw[show (decide (x<0)==decide (y<0))=false by simpa using hs'];simp only[cond_false,vy (show (dU x.natAbs).length≤_ by rw[fk];omega) (show (dU y.natAbs).length≤_ by rw[fk];omega),Option.bind_some];by_cases hc:x.natAbs<y.natAbs
  ·have hl:=Rg (show x.natAbs≤y.natAbs by omega);obtain⟨r,e,v,d,l⟩:=Ec (wh y.natAbs) (wh x.natAbs) (show (dU y.natAbs).length≤_ by rw[fk];omega) hl (by rw[sZ,sZ];omega);rw[fk] at l;rw[n6 (by omega),gI (by omega)];simp only[cond_true,e,Option.bind_some,jA d (show r.length≤1000000000000000 by omega)];rw[sZ,sZ] at v;by_cases h:y<0
   ·rw[gI h,v];have:(bif true then -((y.natAbs:Int) - (x.natAbs:Int)) else ((y.natAbs:Int) - (x.natAbs:Int)))=x+y:=by simp only[cond_true];omega
    rw[this]
   ·rw[gv h,v];have:(bif false then -((y.natAbs:Int) - (x.natAbs:Int)) else ((y.natAbs:Int) - (x.natAbs:Int)))=x+y:=by simp only[cond_false];omega
    rw[this]
  ·have hl:=Rg (show y.natAbs≤x.natAbs by omega);obtain⟨r,e,v,d,l⟩:=Ec (wh x.natAbs) (wh y.natAbs) (show (dU x.natAbs).length≤_ by rw[fk];omega) hl (by rw[sZ,sZ];omega);rw[fk] at l;have:¬nS x.natAbs y.natAbs<0:=by unfold nS;rw[if_neg (by omega)];split<;>omega
   rw[gv this];simp only[cond_false,e,Option.bind_some,jA d (show r.length≤1000000000000000 by omega)];rw[sZ,sZ] at v;by_cases h:x<0
   ·rw[gI h,v];have:(bif true then -((x.natAbs:Int) - (y.natAbs:Int)) else ((x.natAbs:Int) - (y.natAbs:Int)))=x+y:=by simp only[cond_true];omega
    rw[this]
   ·rw[gv h,v];have:(bif false then -((x.natAbs:Int) - (y.natAbs:Int)) else ((x.natAbs:Int) - (y.natAbs:Int)))=x+y:=by simp only[cond_false];omega
    rw[this]
theorem m6 {x:Int}(hx:Ln x≤100000000000):az (W x)=some (W (-x)):=by
 rw[wM,sf];simp only[Y1,Y2];rw[jA (wh _) (show (dU x.natAbs).length≤_ by rw[fk];omega),sZ];by_cases h:x<0
 ·rw[gI h];have:(bif !true then -(x.natAbs:Int) else (x.natAbs:Int))= -x:=by simp only[Bool.not_true,cond_false];omega
  rw[this];rfl
 ·rw[gv h];have:(bif !false then -(x.natAbs:Int) else (x.natAbs:Int))= -x:=by simp only[Bool.not_false,cond_true];omega
  rw[this];rfl
theorem xw {x y:Int}(hx:Ln x≤100000000000)(hy:Ln y≤100000000000):dZ (W x) (W y)=some (W (x - y)):=by rw[wV,sm];show (az (W y)).bind _=_;rw[m6 hy];simp only[Option.bind_some];show (bp (W x) (W (-y))).bind _=_;rw[m5 hx (by rw[YZ];exact hy)];rfl
theorem XQ (x:Int):((W x).2.1.length:Int)=(Ln x:Int):=rfl
theorem vz (x:Int):Ln x=0↔x=0:=by have:=tg x 0;rw[Nat.pow_zero] at this;omega
def CQ (x:Int):Int:=if x<0 then -1 else if 0<x then 1 else 0
theorem fl (x:Int):aj (W x)=some (CQ x):=by
 rw[uZ,qH,XQ,Y1];have h0:=vz x;unfold CQ;by_cases hz:x=0
 ·rw[XP (by omega)];simp[hz]
 ·rw[KP (by omega)];simp only[cond_false];by_cases h:x<0
  ·rw[gI h,if_pos h];rfl
  ·rw[gv h,if_neg h,if_pos (by omega)];rfl
theorem xx (x:Int):dg (W x)=some (W x.natAbs):=by rw[wT,sj,Y2];simp only[W,Int.natAbs_natCast];rw[gv (by omega)]
theorem Fp {x y:Int}(hx:Ln x≤100000000000)(hy:Ln y≤100000000000):eU (W x) (W y)=some (nS x y):=by
 rw[wS,si];simp only[Y1,Y2];rw[vy (show (dU x.natAbs).length≤_ by rw[fk];omega) (show (dU y.natAbs).length≤_ by rw[fk];omega),
  vy (show (dU y.natAbs).length≤_ by rw[fk];omega) (show (dU x.natAbs).length≤_ by rw[fk];omega)]
 simp only[Option.bind_some];by_cases h1:x<0<;>by_cases h2:y<0
 ·rw[gI h1,gI h2];simp only[beq_self_eq_true,Bool.not_true,cond_false,cond_true,Option.some.injEq];unfold nS;by_cases h3:x<y
  ·rw[if_pos h3,if_pos (by omega)]
  ·rw[if_neg h3,if_neg (by omega)];by_cases h4:y<x
   ·rw[if_pos h4,if_pos (by omega)]
   ·rw[if_neg h4,if_neg (by omega)]
 ·rw[gI h1,gv h2,n6 (x:=x) (y:=y) (by omega)];rfl
 ·rw[gv h1,gI h2,sY (x:=x) (y:=y) (by omega)];rfl
 ·rw[gv h1,gv h2];simp only[beq_self_eq_true,Bool.not_true,cond_false,Option.some.injEq];unfold nS;by_cases h3:x<y
  ·rw[if_pos h3,if_pos (by omega)]
  ·rw[if_neg h3,if_neg (by omega)];by_cases h4:y<x
   ·rw[if_pos h4,if_pos (by omega)]
   ·rw[if_neg h4,if_neg (by omega)]
theorem Rk (neg:Bool)(t:Bool)(t2:List Int):∀(n:Nat) (u:Nat) (d:List Int),u<1000000000^n→u<18446744073709551616→d.length+n≤1000→mS u neg d t t2=some (neg,(d++dU u,())):=by
 intro n;induction n with
 |zero=>
  intro u d hu XG hd;have:u=0:=by rw[Nat.pow_zero] at hu;omega
  subst this;rw[yc,u7];simp[dU,eQ]
 |succ n ih=>
  intro u d hu XG hd;rw[yc,u7];by_cases h0:u=0
  ·subst h0;simp[dU,eQ]
  ·have ht:([(u:Int) % 1000000000]:List Int).length=1:=rfl;simp (disch:=omega) only[UU,cond_true,fL,u32_in,u64_quo,ht,n5];have e1:((u:Int) / 1000000000)=((u / 1000000000:Nat):Int):=by omega
   have e2:((u:Int) % 1000000000)=((u % 1000000000:Nat):Int):=by omega
   rw[Nat.pow_succ] at hu;rw[e1,e2,ih (u / 1000000000) _ (by omega) (by omega) (by simp;omega)];rw[show dU u=_ from sX (B:=1000000000) (by omega) (by omega)];simp
theorem Fq {n:Int}(h0: -9223372036854775808≤n)(h1:n≤9223372036854775807):l3 n=some (W n):=by
 rw[KN,IJ];by_cases h:n<0
 ·have e1:IntKind.wrap .u64 n=n+18446744073709551616:=by rw[IntKind.wrap_u64];omega
  have e2:IntKind.wrap .u64 (0 - (n+18446744073709551616))=(n.natAbs:Int):=by rw[IntKind.wrap_u64];omega
  rw[gI h,e1,e2,Rk _ _ _ 3 n.natAbs [] (by omega) (by omega) (by simp)];simp[W,h]
 ·have e1:IntKind.wrap .u64 n=(n.natAbs:Int):=by rw[IntKind.wrap_u64];omega
  rw[gv h,e1,Rk _ _ _ 3 n.natAbs [] (by omega) (by omega) (by simp)];simp[W,h]
end Go.Proofs.Ytcopbdamkjladaa.Ev
namespace Go.Abs
theorem uE {l:List Int}{n:Nat}{v:Int}(h:n<l.length):(l.set n v).take (n+1)=l.take n++[v]:=by rw[eH (by simpa using h),List.take_set_of_le (Nat.le_refl n)];simp[List.getD,h]
theorem set_drop {l:List Int}{n:Nat}{v:Int}:(l.set n v).drop (n+1)=l.drop (n+1):=by rw[List.drop_set_of_lt (by omega)]
theorem Oo (l:List Int)(k:Nat):l=l.take k++l.drop k:=(List.take_append_drop k l).symm
theorem AB (n j:Nat):(List.replicate n (0:Int)).getD j 0=0:=by
 by_cases h:j<n
 ·simp only[List.getD,List.getElem?_replicate,if_pos h];rfl
 ·exact getD_none (by simp;omega)
theorem SY {x y:Int}(hx:0≤x∧x<1000000000)(hy:0≤y∧y<1000000000):0≤x*y∧x*y≤999999998000000001:=by have h1:=Int.mul_nonneg hx.1 hy.1;have h2:x*y≤999999999*y:=Int.mul_le_mul_of_nonneg_right (by omega) hy.1;exact⟨h1,by omega⟩
end Go.Abs
namespace Go.Proofs.Ytcopbdamkjladaa.Ev
open Go.Abs Go.IntWalk
def Rl:List Int→Int→List Int→Int→List Int
 | [],x,o::os,c=>c::os
 | [],x,[],c=>[]
 |y::ys,x,o::os,c=>(x*y+o+c) % 1000000000::Rl ys x os ((x*y+o+c) / 1000000000)
 |y::ys,x,[],c=>[]
def W1:List Int→List Int→List Int→List Int
 | [],b,o=>o
 |x::xs,b,o=>match Rl b x o 0 with
  | []=>[]
  |h::t=>h::W1 xs b t
theorem CR:∀(b:List Int) (x:Int) (o:List Int) (c:Int),b.length<o.length→(Rl b x o c).length=o.length
 | [],x,[],c,h=>by simp at h
 | [],x,o::os,c,h=>by simp[Rl]
 |y::ys,x,[],c,h=>by simp at h
 |y::ys,x,o::os,c,h=>by simp only[Rl,List.length_cons];rw[CR ys x os _ (by simpa using h)]
theorem Mm:∀(b:List Int) (x:Int) (o:List Int) (c:Int),b.length<o.length→DU b→DU o→0≤x∧x<1000000000→0≤c∧c<1000000000→o.getD b.length 0=0→
  VU (Rl b x o c)=VU o+x*VU b+c∧DU (Rl b x o c)∧(Rl b x o c).drop (b.length+1)=o.drop (b.length+1)
 | [],x,[],c,h,hb,ho,hx,hc,hz=>by simp at h
 | [],x,o::os,c,h,hb,ho,hx,hc,hz=>by
   have:o=0:=by simpa using hz
   subst this;simp only[Rl];exact⟨by simp[VU,val];omega,fp.cons hc.1 hc.2 ho.tail,by simp⟩
 |y::ys,x,[],c,h,hb,ho,hx,hc,hz=>by simp at h
 |y::ys,x,o::os,c,h,hb,ho,hx,hc,hz=>by
  have hy:=hb.head;have hoo:=ho.head;have hm:=SY hx hy;obtain⟨e1,e2,e3⟩:=Mm ys x os ((x*y+o+c) / 1000000000) (by simpa using h) hb.tail ho.tail hx (by omega) (by simpa using hz);simp only[Rl];refine⟨?_,fp.cons (by omega) (by omega) e2,by simpa using e3⟩;simp only[VU,val] at e1 ⊢;have e4:x*(y+1000000000*val 1000000000 ys)=x*y+1000000000*(x*val 1000000000 ys):=by rw[Int.mul_add,Int.mul_left_comm]
  rw[e1,e4];omega
theorem Rm:∀(a b o:List Int),o.length=a.length+b.length→DU a→DU b→DU o→(∀j,b.length≤j→o.getD j 0=0)→
  VU (W1 a b o)=VU o+VU a*VU b∧DU (W1 a b o)∧(W1 a b o).length=o.length
 | [],b,o,hl,ha,hb,ho,hz=>by simp[W1,VU,val];exact ho
 |x::xs,b,o,hl,ha,hb,ho,hz=>by
  have hlt:b.length<o.length:=by simp at hl;omega
  obtain⟨e1,e2,e3⟩:=Mm b x o 0 hlt hb ho ha.head ⟨by omega,by omega⟩ (hz _ (Nat.le_refl _));have e4:=CR b x o 0 hlt;simp only[W1];split
  ·rename_i e;rw[e] at e4;simp at e4;omega
  ·rename_i h t e;rw[e] at e1 e2 e3 e4;obtain⟨f1,f2,f3⟩:=Rm xs b t (by simp at hl e4;omega) ha.tail hb e2.tail (fun j hj=>by
    have h5:(h::t).drop (b.length+1)=t.drop b.length:=rfl;have h6:t.getD j 0=(t.drop b.length).getD (j - b.length) 0:=by rw[mZ];congr 1;omega
    rw[h6, ←h5,e3,mZ];exact hz _ (by omega))
   refine⟨?_,fp.cons e2.head.1 e2.head.2 f2,by simp[f3] at e4 ⊢;omega⟩;simp only[VU,val] at e1 f1 ⊢;rw[f1,Int.add_mul,Int.mul_assoc];omega
theorem SZ {a b:List Int}{sa sb:Bool}{t8:List Int}{t7:Bool}{x:Int}{i:Nat}(hb:DU b)(hx:0≤x∧x<1000000000)(hi:i<a.length)(hl:a.length≤1000000000000)(hl':b.length≤1000000000000):
  ∀(m k:Nat) (c:Int) (out:List Int),m+k=b.length→out.length=a.length+b.length→DU out→0≤c∧c<1000000000→
  dK i x c a a.length i b b.length k out sa a sb b t7 t8=cJ a a.length (i+1) (out.take (i+k)++Rl (b.drop k) x (out.drop (i+k)) c) sa a sb b t7 t8:=by
 intro m;induction m with
 |zero=>
  intro k c out hk ho hd hc;have hk':k=b.length:=by omega
  subst hk';rw[nD,kA];simp (disch:=omega) only[gv,cond_false,i64_in,u32_in];rw[kd (by omega) (by omega),Jb (show ((i:Int)+b.length).toNat<out.length by omega)];have e:((i:Int)+b.length).toNat=i+b.length:=by omega
  simp only[Option.bind_some,e];rw[drop_nil (Nat.le_refl _),drop_eq (show i+b.length<out.length by omega)];simp only[Rl]
  congr 1
  conv=>lhs;rw[Oo (out.set (i+b.length) c) (i+b.length+1)]
  rw[uE (by omega),set_drop];simp
 |succ m ih=>
  intro k c out hk ho hd hc;have hy:=hb.getD (by omega) k;have hoo:=hd.getD (by omega) (i+k);have hm:=SY hx hy;rw[nD,kA];have e:((i:Int)+k).toNat=i+k:=by omega
  simp (disch:=omega) only[gI,cond_true,i64_in,kd,Jb,Option.bind_some,u64_in,Int.toNat_natCast,e];simp (disch:=omega) only[u64_in,u64_quo,fL,u32_in];have pM:=fun c out=>ih (k+1) c out (by omega);simp only[Int.natCast_add,Int.natCast_one] at pM;rw[pM _ _ (by simp[ho]) (hd.set (by omega) (by omega) _) (by omega)]
  congr 1
  rw[drop_eq (show k<b.length by omega),drop_eq (show i+k<out.length by omega)];simp only[Rl];rw[show i+(k+1)=i+k+1 by omega,uE (by omega),set_drop];have e2:c+(x*b.getD k 0+out.getD (i+k) 0)=x*b.getD k 0+out.getD (i+k) 0+c:=by omega
  rw[e2];simp
theorem S0 {a b:List Int}{sa sb:Bool}{t8:List Int}{t7:Bool}(ha:DU a)(hb:DU b)(hl:a.length≤1000000000000)(hl':b.length≤1000000000000):
  ∀(m i:Nat) (out:List Int),m+i=a.length→out.length=a.length+b.length→DU out→(∀j,b.length≤j→(out.drop i).getD j 0=0)→
  cJ a a.length i out sa a sb b t7 t8=eD (!(sa==sb)) (out.take i++W1 (a.drop i) b (out.drop i)):=by
 intro m;induction m with
 |zero=>
  intro i out hi ho hd hz;have hi':i=a.length:=by omega
  rw[nC,kz];simp (disch:=omega) only[gv,cond_false,drop_nil,W1,List.take_append_drop];cases eD (!(sa==sb)) out<;>rfl
 |succ m ih=>
  intro i out hi ho hd hz;have hx:=ha.getD (by omega) i;rw[nC,kz];simp (disch:=omega) only[gI,cond_true,kd,Option.bind_some,Int.toNat_natCast];have hI:=SZ (a:=a) (sa:=sa) (sb:=sb) (t7:=t7) (t8:=t8) (i:=i) hb hx (by omega) hl hl' b.length 0 0 out (by omega) ho hd ⟨by omega,by omega⟩;simp only[Int.natCast_zero] at hI;rw[hI];have hlen:(out.drop (i+0)).length=a.length - i+b.length:=by simp;omega
  have hlt:b.length<(out.drop (i+0)).length:=by omega
  obtain⟨e1,e2,e3⟩:=Mm b (a.getD i 0) (out.drop (i+0)) 0 hlt hb (hd.drop _) hx ⟨by omega,by omega⟩ (hz _ (Nat.le_refl _));have e4:=CR b (a.getD i 0) (out.drop (i+0)) 0 hlt;have pM:=fun out=>ih (i+1) out (by omega);simp only[Int.natCast_add,Int.natCast_one] at pM;rw[drop_eq (show i<a.length by omega)];simp only[W1,List.drop_zero,Nat.add_zero,Int.natCast_zero] at*
  cases hA:Rl b (a.getD i 0) (out.drop i) 0 with
  |nil=>rw[hA] at e4;simp at e4;omega
  |cons h t=>
   rw[hA] at e2 e3 e4;have htl:(out.take i).length=i:=by simp;omega
   have h7:(out.take i++h::t).drop (i+1)=t:=by rw[List.drop_append,htl];have:(out.take i).drop (i+1)=[]:=drop_nil (by omega);rw[this];simp
   have h8:(out.take i++h::t).take (i+1)=out.take i++[h]:=by rw[List.take_append,htl];have:(out.take i).take (i+1)=out.take i:=List.take_of_length_le (by omega);rw[this];simp
   rw[pM _ (by simp[ho] at e4 ⊢;omega) ((hd.take _).append e2) (fun j hj=>by
    rw[h7];have h5:(h::t).drop (b.length+1)=t.drop b.length:=rfl;have h6:t.getD j 0=(t.drop b.length).getD (j - b.length) 0:=by rw[mZ];congr 1;omega
    rw[h6, ←h5,e3,mZ];exact hz _ (by omega)),h7,h8]
   simp
theorem Fs {x y:Int}(hx:Ln x≤100000000000)(hy:Ln y≤100000000000):cp (W x) (W y)=some (W (x*y)):=by
 rw[wU,sk];simp only[Y1,Y2,fk];simp (disch:=omega) only[i64_in,uC,cond_true];have acO:(((Ln x:Nat):Int)+(Ln y:Nat)).toNat=Ln x+Ln y:=by omega
 rw[acO];have ha:=wh x.natAbs;have hb:=wh y.natAbs;have h1:=S0 (sa:=decide (x<0)) (sb:=decide (y<0)) (t7:=false) (t8:=[]) ha hb (by rw[fk];omega) (by rw[fk];omega) (Ln x) 0 (List.replicate (Ln x+Ln y) 0) (by rw[fk];omega)
  (by rw[List.length_replicate,fk,fk]) (fp.replicate (by omega) _) (fun j hj=>by
   rw[mZ];exact AB _ _)
 rw[fk] at h1;have h2:cJ (dU x.natAbs) (Ln x) 0 (List.replicate (Ln x+Ln y) 0) (decide (x<0)) (dU x.natAbs) (decide (y<0)) (dU y.natAbs) false []=_:=h1;rw[h2];obtain⟨e1,e2,e3⟩:=Rm (dU x.natAbs) (dU y.natAbs) (List.replicate (Ln x+Ln y) 0) (by rw[List.length_replicate,fk,fk]) ha hb (fp.replicate (by omega) _) (fun j hj=>by
   exact AB _ _)
 simp only[List.take_zero,List.nil_append,List.drop_zero];rw[jA e2 (by rw[e3,List.length_replicate];omega),e1,sZ,sZ];simp only[VU,B8,Int.zero_add];have key:(bif !(decide (x<0)==decide (y<0)) then -((x.natAbs:Int)*(y.natAbs:Int)) else ((x.natAbs:Int)*(y.natAbs:Int)))=x*y:=by
  by_cases h1:x<0<;>by_cases h2:y<0
  ·rw[gI h1,gI h2];have e1:(x.natAbs:Int)= -x:=by omega
   have e2:(y.natAbs:Int)= -y:=by omega
   rw[e1,e2];simp[Int.neg_mul,Int.mul_neg]
  ·rw[gI h1,gv h2];have e1:(x.natAbs:Int)= -x:=by omega
   have e2:(y.natAbs:Int)=y:=by omega
   rw[e1,e2];simp[Int.neg_mul,Int.mul_neg]
  ·rw[gv h1,gI h2];have e1:(x.natAbs:Int)=x:=by omega
   have e2:(y.natAbs:Int)= -y:=by omega
   rw[e1,e2];simp[Int.neg_mul,Int.mul_neg]
  ·rw[gv h1,gv h2];have e1:(x.natAbs:Int)=x:=by omega
   have e2:(y.natAbs:Int)=y:=by omega
   rw[e1,e2];simp[Int.neg_mul,Int.mul_neg]
 rw[key]
def G4:List Int→Int→Int→List Int
 | [],k,c=>[c]
 |x::xs,k,c=>(c+x*k) % 1000000000::G4 xs k ((c+x*k) / 1000000000)
theorem Mn:∀(a:List Int) (k c:Int),DU a→0≤k∧k<1000000000→0≤c∧c<1000000000→VU (G4 a k c)=VU a*k+c∧DU (G4 a k c)∧(G4 a k c).length=a.length+1
 | [],k,c,ha,hk,hc=>by simp only[G4];exact⟨by simp[VU,val],fp.cons hc.1 hc.2 fp.nil,rfl⟩
 |x::xs,k,c,ha,hk,hc=>by have hm:=SY ha.head hk;obtain⟨e1,e2,e3⟩:=Mn xs k ((c+x*k) / 1000000000) ha.tail hk (by omega);simp only[G4];refine⟨?_,fp.cons (by omega) (by omega) e2,by simp[e3]⟩;simp only[VU,val] at e1 ⊢;rw[e1,Int.add_mul,Int.mul_assoc];omega
theorem Oq {a:List Int}{k:Int}(ha:DU a)(hk:0≤k∧k<1000000000)(hl:a.length≤1000000000000):∀(m i:Nat) (c:Int) (out:List Int),m+i=a.length→out.length=i→0≤c∧c<1000000000→
  fI k c a a.length i out=some (out++G4 (a.drop i) k c):=by
 intro m;induction m with
 |zero=>intro i c out hi ho hc;rw[qP,nV];simp (disch:=omega) only[gv,cond_false,n5,cond_true,drop_nil,G4,u32_in]
 |succ m ih=>intro i c out hi ho hc;have hx:=ha.getD (by omega) i;have hm:=SY hx hk;rw[qP,nV];simp (disch:=omega) only[gI,cond_true,kd,Option.bind_some,Int.toNat_natCast,u64_in];simp (disch:=omega) only[u64_in,fL,u64_quo,n5,cond_true,i64_in,u32_in];have pM:=fun c out=>ih (i+1) c out (by omega);simp only[Int.natCast_add,Int.natCast_one] at pM;rw[pM _ _ (by simp;omega) (by omega),drop_eq (show i<a.length by omega)];simp[G4]
theorem B9 {a:List Int}{k:Int}(ha:DU a)(hk:0≤k∧k<1000000000)(hl:a.length≤1000000000000):oa a k=some (G4 a k 0):=by rw[BV,yf];simp (disch:=omega) only[i64_in,uC,cond_true];have:=Oq ha hk hl a.length 0 0 [] (by omega) rfl ⟨by omega,by omega⟩;simpa using this
def uK (b:Int):List Int→List Int×Int
 | []=>([],0)
 |x::xs=>((((uK b xs).2*1000000000+x) / b)::(uK b xs).1,((uK b xs).2*1000000000+x) % b)
theorem Ed {b:Int}(hb:0<b∧b<1000000000):∀(a:List Int),DU a→VU a=VU (uK b a).1*b+(uK b a).2∧0≤(uK b a).2∧(uK b a).2<b∧DU (uK b a).1∧(uK b a).1.length=a.length
 | [],ha=>⟨by simp[uK,VU,val],by simp[uK],by simp[uK];omega,fp.nil,rfl⟩
 |x::xs,ha=>by
  have hx:=ha.head;obtain⟨e1,e2,e3,e4,e5⟩:=Ed hb xs ha.tail;have hd:=Int.mul_ediv_add_emod ((uK b xs).2*1000000000+x) b;have hlt:=Int.emod_lt_of_pos ((uK b xs).2*1000000000+x) hb.1;have VQ:=Int.emod_nonneg ((uK b xs).2*1000000000+x) (show b≠0 by omega);have hq0:0≤((uK b xs).2*1000000000+x) / b:=Int.ediv_nonneg (by omega) (by omega);have W2:((uK b xs).2*1000000000+x) / b<1000000000:=Int.ediv_lt_of_lt_mul hb.1 (by omega);simp only[uK];refine⟨?_,VQ,hlt,fp.cons hq0 W2 e4,by simp[e5]⟩;simp only[VU,val] at e1 ⊢;have e7:(((uK b xs).2*1000000000+x) / b+1000000000*val 1000000000 (uK b xs).1)*b=b*(((uK b xs).2*1000000000+x) / b)+1000000000*(val 1000000000 (uK b xs).1*b):=by rw[Int.add_mul,Int.mul_assoc,Int.mul_comm (_ / b) b]
  rw[e1,e7];omega
theorem P6 {a:List Int}{b:Int}(ha:DU a)(hb:0<b∧b<1000000000)(hl:a.length≤1000000000000):∀(k:Nat) (out:List Int),k≤a.length→out.length=a.length→out.drop k=(uK b (a.drop k)).1→
  gN a b (uK b (a.drop k)).2 ((k:Int) - 1) out=some (uK b a):=by
 intro k;induction k with
 |zero=>intro out hk ho hd;rw[so,pk];obtain⟨e1,e2,e3,e4,e5⟩:=Ed hb a ha;simp only[List.drop_zero] at hd ⊢;simp (disch:=omega) only[Ok,cond_false,u32_in];rw[hd]
 |succ k ih=>
  intro out hk ho hd;obtain⟨e1,e2,e3,e4,e5⟩:=Ed hb (a.drop (k+1)) (ha.drop _);have hx:=ha.getD (by omega) k;have hq0:0≤((uK b (a.drop (k+1))).2*1000000000+a.getD k 0) / b:=Int.ediv_nonneg (by omega) (by omega);have W2:((uK b (a.drop (k+1))).2*1000000000+a.getD k 0) / b<1000000000:=Int.ediv_lt_of_lt_mul hb.1 (by omega);rw[so,pk];have e:((k+1:Nat):Int) - 1=k:=by omega
  rw[e];simp (disch:=omega) only[Re,cond_true,kd,Jb,Option.bind_some,Int.toNat_natCast,u64_in];simp (disch:=omega) only[u64_in,u64_quo,fL,KP,cond_false,u32_in,i64_in];have h1:uK b (a.drop k)=((((uK b (a.drop (k+1))).2*1000000000+a.getD k 0) / b)::(uK b (a.drop (k+1))).1,((uK b (a.drop (k+1))).2*1000000000+a.getD k 0) % b):=by rw[drop_eq (show k<a.length by omega)];rfl
  have h2:=ih (out.set k (((uK b (a.drop (k+1))).2*1000000000+a.getD k 0) / b)) (by omega) (by simpa using ho) (by
   rw[h1,drop_eq (by simp;omega),set_drop,hd];simp[List.getD,show k<out.length by omega])
  rw[h1] at h2;exact h2
theorem Ee {a:List Int}{b:Int}(ha:DU a)(hb:0<b∧b<1000000000)(hl:a.length≤1000000000000):mU a b=some (uK b a):=by rw[DH,z4];simp (disch:=omega) only[i64_in,uC,cond_true,Int.toNat_natCast];have:=P6 ha hb hl a.length (List.replicate a.length 0) (Nat.le_refl _) (by simp) (by rw[drop_nil (Nat.le_refl _),drop_nil (by simp)];rfl);rw[drop_nil (Nat.le_refl _)] at this;exact this
end Go.Proofs.Ytcopbdamkjladaa.Ev
namespace Go.Abs
section
variable {P V R vl wl v1 v2 u1 u2 u3 g rest:Int}
theorem U0 (hP:0<P)(hvl:vl<P)(W3:0≤wl)(hV:V=vl+P*(v2+1000000000*v1))(hR:R=wl+P*(u3+1000000000*(u2+1000000000*u1)))
  (h2:v2<1000000000) (h3:0≤u3) (h4:0≤u2) (hlt:R<V*1000000000):u1≤v1:=by
 by_cases h:u1≤v1
 ·exact h
 ·exfalso;have e1:P*(v1+1)≤P*u1:=Int.mul_le_mul_of_nonneg_left (by omega) (by omega);have e2:P*(v2+1)≤P*1000000000:=Int.mul_le_mul_of_nonneg_left (by omega) (by omega);have e3:0≤P*u3:=Int.mul_nonneg (by omega) h3;have e4:0≤P*u2:=Int.mul_nonneg (by omega) h4;simp only[Int.mul_add,Int.mul_one,Int.mul_left_comm P 1000000000] at hV hR e1 e2;omega
theorem Y3 (hP:0<P)(hV0:0<V)(hvl:0≤vl)(W3:wl<P)(hV:V=vl+P*(v2+1000000000*v1))(hR:R=wl+P*(u3+1000000000*(u2+1000000000*u1)))
  (hg:0≤g) (ht:u1*1000000000+u2=g*v1+rest) (hlt:R<V*1000000000) (h:g≥1000000000∨g*v2>rest*1000000000+u3):R<g*V:=by
 rcases h with h |h
 ·have e1:V*1000000000≤V*g:=Int.mul_le_mul_of_nonneg_left h (by omega);rw[Int.mul_comm V g] at e1;omega
 ·have e1:0≤g*vl:=Int.mul_nonneg hg hvl;have e2:P*(rest*1000000000+u3+1)≤P*(g*v2):=Int.mul_le_mul_of_nonneg_left (by omega) (by omega);have e3:P*(u1*1000000000+u2)=P*(g*v1+rest):=by rw[ht]
  have e4:g*V=g*vl+(P*(g*v2)+1000000000*(P*(g*v1))):=by rw[hV,Int.mul_add,Int.mul_left_comm g P,Int.mul_add g,Int.mul_left_comm g 1000000000,Int.mul_add P,Int.mul_left_comm P 1000000000]
  simp only[Int.mul_add,Int.mul_one, ←Int.mul_assoc,Int.mul_left_comm P 1000000000] at e2 e3 hR e4;simp only[Int.mul_assoc,Int.mul_comm _ (1000000000:Int),Int.mul_left_comm _ (1000000000:Int)] at e2 e3 hR e4 ⊢;omega
theorem W4 {G:Int}(hP:0<P)(hvl:0≤vl)(W3:wl<P)(hV:V=vl+P*(v2+1000000000*v1))(hR:R=wl+P*(u3+1000000000*(u2+1000000000*u1)))
  (Jz:0≤v2) (hu3:u3<1000000000) (hG:0≤G) (ht:u1*1000000000+u2+1≤G*v1):R<G*V:=by
 have h2:=Int.mul_le_mul_of_nonneg_left ht (show (0:Int)≤P by omega);have h3:0≤G*vl:=Int.mul_nonneg hG hvl;have h4:0≤P*(G*v2):=Int.mul_nonneg (by omega) (Int.mul_nonneg hG Jz);have h5:G*V=G*vl+(P*(G*v2)+1000000000*(P*(G*v1))):=by rw[hV,Int.mul_add,Int.mul_left_comm G P,Int.mul_add G,Int.mul_left_comm G 1000000000,Int.mul_add P,Int.mul_left_comm P 1000000000]
 have h6:P*(u3+1)≤P*1000000000:=Int.mul_le_mul_of_nonneg_left (by omega) (by omega);simp only[Int.mul_add,Int.mul_one, ←Int.mul_assoc,Int.mul_left_comm P 1000000000] at h2 h6 h4 hR h5;simp only[Int.mul_assoc,Int.mul_comm _ (1000000000:Int),Int.mul_left_comm _ (1000000000:Int)] at h2 h6 h4 hR h5 ⊢;omega
theorem U1 (hP:0<P)(Lv:1≤v1)(Jz:0≤v2)(Ot:0≤vl)(hvl:vl<P)(W3:0≤wl)(hV:V=vl+P*(v2+1000000000*v1))(hR:R=wl+P*(u3+1000000000*(u2+1000000000*u1)))
  (hg:0≤g) (hg':g≤999999999) (ht:u1*1000000000+u2=g*v1+rest) (h:g*v2≤rest*1000000000+u3):g*V<R+V:=by
 have e1:g*vl≤999999999*vl:=Int.mul_le_mul_of_nonneg_right hg' Ot;have e2:P*(g*v2)≤P*(rest*1000000000+u3):=Int.mul_le_mul_of_nonneg_left h (by omega);have e3:P*(u1*1000000000+u2)=P*(g*v1+rest):=by rw[ht]
 have e4:g*V=g*vl+(P*(g*v2)+1000000000*(P*(g*v1))):=by rw[hV,Int.mul_add,Int.mul_left_comm g P,Int.mul_add g,Int.mul_left_comm g 1000000000,Int.mul_add P,Int.mul_left_comm P 1000000000]
 have e5:P*1≤P*v1:=Int.mul_le_mul_of_nonneg_left Lv (by omega);have e6:0≤P*v2:=Int.mul_nonneg (by omega) Jz;simp only[Int.mul_add,Int.mul_one, ←Int.mul_assoc,Int.mul_left_comm P 1000000000] at e2 e3 hR e4 hV e5;simp only[Int.mul_assoc,Int.mul_comm _ (1000000000:Int),Int.mul_left_comm _ (1000000000:Int)] at e2 e3 hR e4 hV ⊢;omega
end
def Ft (g:Int):List Int→List Int→Int→List Int×Int
 |us,[],b=>(us,b)
 | [],_::_,b=>([],b)
 |u::us,v::vs,b=>
  if u - b - g*v % 1000000000<0 then
   if u - b - g*v % 1000000000+1000000000<0 then
    ((u - b - g*v % 1000000000+2000000000)::(Ft g us vs (g*v / 1000000000+2)).1,(Ft g us vs (g*v / 1000000000+2)).2)
   else ((u - b - g*v % 1000000000+1000000000)::(Ft g us vs (g*v / 1000000000+1)).1,(Ft g us vs (g*v / 1000000000+1)).2)
  else ((u - b - g*v % 1000000000)::(Ft g us vs (g*v / 1000000000)).1,(Ft g us vs (g*v / 1000000000)).2)
def Mo:List Int→List Int→Int→List Int×Int
 |us,[],c=>(us,c)
 | [],_::_,c=>([],c)
 |u::us,v::vs,c=>((u+v+c) % 1000000000::(Mo us vs ((u+v+c) / 1000000000)).1,(Mo us vs ((u+v+c) / 1000000000)).2)
theorem Ou {g:Int}(hg:0≤g∧g<1000000000):∀(us vs:List Int) (hs:List Int) (b:Int),us.length=vs.length→fp 1000000000 us→fp 1000000000 vs→0≤b∧b≤1000000000→
  ∃r b',Ft g (us++hs) vs b=(r++hs,b')∧val 1000000000 us - b - g*val 1000000000 vs=val 1000000000 r - 1000000000^vs.length*b'∧fp 1000000000 r∧r.length=us.length∧0≤b'∧b'≤1000000000
 | [],[],hs,b,hl,hu,hv,hb=>⟨[],b,by simp[Ft],by simp[val],fp.nil,rfl,hb⟩
 | [],_::_,hs,b,hl,hu,hv,hb=>by simp at hl
 |_::_,[],hs,b,hl,hu,hv,hb=>by simp at hl
 |u::us,v::vs,hs,b,hl,hu,hv,hb=>by
  have h1:=hu.head;have h2:=hv.head;have hm:=SY hg h2;have ih:=fun b' hb'=>Ou hg us vs hs b' (by simpa using hl) hu.tail hv.tail hb';have fin:∀(y c b':Int) (r:List Int),u - b - g*v=y - 1000000000*c→0≤y∧y<1000000000→
    val 1000000000 us - c - g*val 1000000000 vs=val 1000000000 r - 1000000000^vs.length*b'→
    val 1000000000 (u::us) - b - g*val 1000000000 (v::vs)=val 1000000000 (y::r) - 1000000000^(v::vs).length*b':=fun y c b' r e1 hy e2=>by
   simp only[val,List.length_cons,Int.pow_succ];have e3:g*(v+1000000000*val 1000000000 vs)=g*v+1000000000*(g*val 1000000000 vs):=by rw[Int.mul_add,Int.mul_left_comm]
   have e4:(1000000000:Int)^vs.length*1000000000*b'=1000000000*(1000000000^vs.length*b'):=by rw[Int.mul_comm ((1000000000:Int)^vs.length),Int.mul_assoc]
   rw[e3,e4];omega
  simp only[List.cons_append,Ft];split
  ·split
   ·obtain⟨r,b',e1,e2,e3,e4,e5⟩:=ih (g*v / 1000000000+2) (by omega);refine⟨(u - b - g*v % 1000000000+2000000000)::r,b',by rw[e1];rfl,fin _ _ _ _ (by omega) (by omega) e2,fp.cons (by omega) (by omega) e3,by simp[e4],e5⟩
   ·obtain⟨r,b',e1,e2,e3,e4,e5⟩:=ih (g*v / 1000000000+1) (by omega);refine⟨(u - b - g*v % 1000000000+1000000000)::r,b',by rw[e1];rfl,fin _ _ _ _ (by omega) (by omega) e2,fp.cons (by omega) (by omega) e3,by simp[e4],e5⟩
  ·obtain⟨r,b',e1,e2,e3,e4,e5⟩:=ih (g*v / 1000000000) (by omega);refine⟨(u - b - g*v % 1000000000)::r,b',by rw[e1];rfl,fin _ _ _ _ (by omega) (by omega) e2,fp.cons (by omega) (by omega) e3,by simp[e4],e5⟩
theorem Ov:∀(us vs:List Int) (hs:List Int) (c:Int),us.length=vs.length→fp 1000000000 us→fp 1000000000 vs→0≤c∧c≤1→
  ∃r c',Mo (us++hs) vs c=(r++hs,c')∧val 1000000000 us+val 1000000000 vs+c=val 1000000000 r+1000000000^vs.length*c'∧fp 1000000000 r∧r.length=us.length∧0≤c'∧c'≤1
 | [],[],hs,c,hl,hu,hv,hc=>⟨[],c,by simp[Mo],by simp[val],fp.nil,rfl,hc⟩
 | [],_::_,hs,c,hl,hu,hv,hc=>by simp at hl
 |_::_,[],hs,c,hl,hu,hv,hc=>by simp at hl
 |u::us,v::vs,hs,c,hl,hu,hv,hc=>by
  have h1:=hu.head;have h2:=hv.head;obtain⟨r,c',e1,e2,e3,e4,e5⟩:=Ov us vs hs ((u+v+c) / 1000000000) (by simpa using hl) hu.tail hv.tail (by omega);refine⟨(u+v+c) % 1000000000::r,c',by simp only[List.cons_append,Mo];rw[e1], ?_,fp.cons (by omega) (by omega) e3,by simp[e4],e5⟩;simp only[val,List.length_cons,Int.pow_succ];have e6:(1000000000:Int)^vs.length*1000000000*c'=1000000000*(1000000000^vs.length*c'):=by rw[Int.mul_comm ((1000000000:Int)^vs.length),Int.mul_assoc]
  rw[e6];omega
end Go.Abs
namespace Go.Proofs.Ytcopbdamkjladaa.Ev
open Go.Abs Go.IntWalk
section
variable {k:Int}{v:List Int}{n j:Nat}{q u:List Int}
theorem Mp {P V R vl wl v1 v2 u1 u2 u3:Int}(hP:0<P)(Ot:0≤vl)(hvl:vl<P)(S1:0≤wl)(W3:wl<P)(hV:V=vl+P*(v2+1000000000*v1))(hR:R=wl+P*(u3+1000000000*(u2+1000000000*u1)))
  (Lv:500000000≤v1∧v1<1000000000) (Jz:0≤v2∧v2<1000000000) (hu1:0≤u1∧u1<1000000000) (hu2:0≤u2∧u2<1000000000) (hu3:0≤u3∧u3<1000000000) (hlt:R<V*1000000000)
  (hn:2≤n) (OW:v.length=n) (hun:j+n<u.length) (OU:u.length≤1000000000000)
  (gv1:v.getD (n - 1) 0=v1) (gv2:v.getD (n - 2) 0=v2) (gu3:u.getD (j+n - 2) 0=u3):∀(g:Nat) (rest:Int),u1*1000000000+u2=g*v1+rest→0≤rest→rest<1000000000→R<(g+1)*V→
  ∃g':Int,0≤g'∧g'≤999999999∧R<(g'+1)*V∧g'*V<R+V∧gp k v n j g rest q u=eP k v n j g' 0 n 0 q u:=by
 have acS:=U0 hP hvl S1 hV hR Jz.2 hu3.1 hu2.1 hlt;have Ow:0<V:=by have e5:P*1≤P*v1:=Int.mul_le_mul_of_nonneg_left (by omega) (by omega);have e6:0≤P*v2:=Int.mul_nonneg (by omega) Jz.1;simp only[Int.mul_add,Int.mul_one,Int.mul_left_comm P 1000000000] at hV e5;omega
 have hR0:0≤R:=by have e3:0≤P*(u3+1000000000*(u2+1000000000*u1)):=Int.mul_nonneg (by omega) (by omega);omega
 intro g;induction g with
 |zero=>
  intro rest ht h0 h1 hb;have hz:(0:Int)*v2≤rest*1000000000+u3:=by rw[Int.zero_mul];omega
  refine⟨0,by omega,by omega,by simpa using hb,by simp;omega, ?_⟩;rw[tV,rq];have e1:((n:Int) - 2).toNat=n - 2:=by omega
  have e2:((j:Int)+n - 2).toNat=j+n - 2:=by omega
  simp (disch:=omega) only[Ok,cond_false,i64_in,kd,Jb,Option.bind_some,e1,e2,gv2,gu3,Int.natCast_zero,Int.zero_mul,u64_in,XO]
 |succ g ih=>
  intro rest ht h0 h1 hb;have hgb:(g:Int)+1≤1000000001:=by
   -- g v1 is at most zw two top digits
   have h5:(g+1:Nat)*v1≤v1*1000000000+999999999:=by
    have:u1*1000000000≤v1*1000000000:=by omega
    omega
   by_cases hc:(g:Int)+1≤1000000001
   ·exact hc
   ·have h6:(1000000002:Int)*v1≤(g+1:Nat)*v1:=Int.mul_le_mul_of_nonneg_right (by omega) (by omega);omega
  have e1:((n:Int) - 2).toNat=n - 2:=by omega
  have e1':((n:Int) - 1).toNat=n - 1:=by omega
  have e2:((j:Int)+n - 2).toNat=j+n - 2:=by omega
  have egc:((g+1:Nat):Int)=(g:Int)+1:=by omega
  have Y4:(g:Int)+1 - 1=g:=by omega
  rw[egc] at ht hb ⊢;have aem:0≤((g:Int)+1)*v2∧((g:Int)+1)*v2≤1000000001*999999999:=by refine⟨Int.mul_nonneg (by omega) Jz.1, ?_⟩;have h7:((g:Int)+1)*v2≤1000000001*v2:=Int.mul_le_mul_of_nonneg_right hgb Jz.1;omega
  have aaK:((g:Int)+1≥1000000000∨((g:Int)+1)*v2>rest*1000000000+u3)→R<((g:Int)+1)*V:=
   Y3 hP Ow Ot W3 hV hR (by omega) ht hlt
  -- one step down
  have XR:R<((g:Int)+1)*V→∃g':Int,0≤g'∧g'≤999999999∧R<(g'+1)*V∧g'*V<R+V∧
    (bif decide (rest+v1≥1000000000) then eP k v n j g 0 n 0 q u else gp k v n j g (rest+v1) q u)=eP k v n j g' 0 n 0 q u:=fun hR'=>by
   have ht':u1*1000000000+u2=g*v1+(rest+v1):=by rw[ht,Int.add_mul];omega
   by_cases Pg:rest+v1≥1000000000
   ·have hg9:(g:Int)≤999999999:=by
     by_cases hc:(g:Int)≤999999999
     ·exact hc
     ·exfalso;have h6:(1000000000:Int)*v1≤(g:Int)*v1:=Int.mul_le_mul_of_nonneg_right (by omega) (by omega);have:u1*1000000000≤v1*1000000000:=by omega
      omega
    have hle:(g:Int)*v2≤(rest+v1)*1000000000+u3:=by have h7:(g:Int)*v2≤999999999*v2:=Int.mul_le_mul_of_nonneg_right hg9 Jz.1;omega
    refine⟨g,by omega,hg9,hR',U1 hP (by omega) Jz.1 Ot hvl S1 hV hR (by omega) hg9 ht' hle, ?_⟩;rw[Re Pg,cond_true]
   ·obtain⟨g',h1',h2',h3',h4',h5'⟩:=ih (rest+v1) ht' (by omega) (by omega) hR';refine⟨g',h1',h2',h3',h4', ?_⟩;rw[Ok Pg,cond_false];exact h5'
  rw[tV,rq];by_cases hge:(g:Int)+1≥1000000000
  ·obtain⟨g',h1',h2',h3',h4',h5'⟩:=XR (aaK (.inl hge));refine⟨g',h1',h2',h3',h4', ?_⟩;rw[←h5',Jc hge];simp (disch:=omega) only[i64_in,oU,e1',gv1,u64_in,Y4]
  ·by_cases hgt:((g:Int)+1)*v2>rest*1000000000+u3
   ·obtain⟨g',h1',h2',h3',h4',h5'⟩:=XR (aaK (.inr hgt));refine⟨g',h1',h2',h3',h4', ?_⟩;rw[←h5',Gn hge];simp (disch:=omega) only[i64_in,oU,y6,e1,e1',e2,gv1,gv2,gu3,u64_in,Y4,lR]
   ·refine⟨(g:Int)+1,by omega,by omega,hb,U1 hP (by omega) Jz.1 Ot hvl S1 hV hR (by omega) (by omega) ht (by omega), ?_⟩;rw[Gn hge];simp (disch:=omega) only[i64_in,oU,y6,e1,e1',e2,gv1,gv2,gu3,u64_in,Y4,lS]
end
end Go.Proofs.Ytcopbdamkjladaa.Ev
namespace Go.Abs
theorem S2 {l:List Int}{m:Nat}(h:m+2<l.length):val 1000000000 (l.take (m+3))=val 1000000000 (l.take m)+1000000000^m*(l.getD m 0+1000000000*(l.getD (m+1) 0+1000000000*l.getD (m+2) 0)):=by
 rw[eH (show m+2<l.length by omega),eH (show m+1<l.length by omega),eH (show m<l.length by omega),List.append_assoc,List.append_assoc,fj];have:(l.take m).length=m:=by simp;omega
 rw[this];simp[val]
theorem S3 {l:List Int}{m:Nat}(h:m+1<l.length):val 1000000000 (l.take (m+2))=val 1000000000 (l.take m)+1000000000^m*(l.getD m 0+1000000000*l.getD (m+1) 0):=by
 rw[eH (show m+1<l.length by omega),eH (show m<l.length by omega),List.append_assoc,fj];have:(l.take m).length=m:=by simp;omega
 rw[this];simp[val]
end Go.Abs
namespace Go.Proofs.Ytcopbdamkjladaa.Ev
open Go.Abs Go.IntWalk
section
variable {k:Int}{v:List Int}{n j:Nat}
theorem Mq {g:Int}(hg:0≤g∧g<1000000000)(hv:DU v)(OW:v.length=n):∀(m i:Nat) (b:Int) (u q:List Int),m+i=n→0≤b∧b≤1000000000→DU u→j+n<u.length→u.length≤1000000000000→
  eP k v n j g b n i q u=eP k v n j g (Ft g (u.drop (j+i)) (v.drop i) b).2 n n q (u.take (j+i)++(Ft g (u.drop (j+i)) (v.drop i) b).1):=by
 intro m;induction m with
 |zero=>
  intro i b u q hi hb hu U2 OU;have:i=n:=by omega
  subst this;have h1:v.drop i=[]:=drop_nil (by omega);have h2:∀(us:List Int),Ft g us [] b=(us,b):=fun us=>by cases us<;>rfl
  rw[h1,h2];simp only[List.take_append_drop]
 |succ m ih=>
  intro i b u q hi hb hu U2 OU;have hx:=hu.getD (by omega) (j+i);have hy:=hv.getD (by omega) i;have hm:=SY hg hy;have e1:((i:Int)+(j:Int)).toNat=j+i:=by omega
  rw[tW,ry];have pM:=fun b u q=>ih (i+1) b u q (by omega);simp only[Int.natCast_add,Int.natCast_one] at pM;simp (disch:=omega) only[aO,i64_in,oU,y6,e1,Int.toNat_natCast];simp (disch:=omega) only[i64_in,fL,jL];rw[drop_eq (show i<v.length by omega),drop_eq (show j+i<u.length by omega)];simp only[Ft];by_cases h1:u.getD (j+i) 0 - b - g*v.getD i 0 % 1000000000<0
  ·rw[aO h1,if_pos h1];by_cases h2:u.getD (j+i) 0 - b - g*v.getD i 0 % 1000000000+1000000000<0
   ·rw[if_pos h2];simp (disch:=omega) only[i64_in,aO,oU,y6,e1,u32_in];rw[pM _ _ _ (by omega) (hu.set (by omega) (by omega) _) (by simpa using U2) (by simpa using OU)];rw[show j+(i+1)=j+i+1 by omega,uE (by omega),set_drop];have e2:g*v.getD i 0 / 1000000000+1+1=g*v.getD i 0 / 1000000000+2:=by omega
    have e3:u.getD (j+i) 0 - b - g*v.getD i 0 % 1000000000+1000000000+1000000000=u.getD (j+i) 0 - b - g*v.getD i 0 % 1000000000+2000000000:=by omega
    rw[e2,e3];simp only[List.append_assoc,List.singleton_append]
   ·rw[if_neg h2];simp (disch:=omega) only[i64_in,aY,oU,y6,e1,u32_in];rw[pM _ _ _ (by omega) (hu.set (by omega) (by omega) _) (by simpa using U2) (by simpa using OU)];rw[show j+(i+1)=j+i+1 by omega,uE (by omega),set_drop];simp only[List.append_assoc,List.singleton_append]
  ·rw[aY h1,if_neg h1];simp (disch:=omega) only[i64_in,aY,oU,y6,e1,u32_in];rw[pM _ _ _ (by omega) (hu.set (by omega) (by omega) _) (by simpa using U2) (by simpa using OU)];rw[show j+(i+1)=j+i+1 by omega,uE (by omega),set_drop];simp only[List.append_assoc,List.singleton_append]
theorem Mr {g x:Int}(hv:DU v)(OW:v.length=n):∀(m i:Nat) (c:Int) (u q:List Int),m+i=n→0≤c∧c≤1→DU u→j+n<u.length→u.length≤1000000000000→
  gV k v n j g x c n i q u=gV k v n j g x (Mo (u.drop (j+i)) (v.drop i) c).2 n n q (u.take (j+i)++(Mo (u.drop (j+i)) (v.drop i) c).1):=by
 intro m;induction m with
 |zero=>
  intro i b u q hi hb hu U2 OU;have:i=n:=by omega
  subst this;have h1:v.drop i=[]:=drop_nil (by omega);have h2:∀(us:List Int),Mo us [] b=(us,b):=fun us=>by cases us<;>rfl
  rw[h1,h2];simp only[List.take_append_drop]
 |succ m ih=>
  intro i c u q hi hc hu U2 OU;have hx:=hu.getD (by omega) (j+i);have hy:=hv.getD (by omega) i;have e1:((i:Int)+(j:Int)).toNat=j+i:=by omega
  rw[tX,rz];have pM:=fun b u q=>ih (i+1) b u q (by omega);simp only[Int.natCast_add,Int.natCast_one] at pM;simp (disch:=omega) only[aO,i64_in,oU,y6,e1,Int.toNat_natCast,u32_in];simp (disch:=omega) only[u32_in,fL,jL];rw[drop_eq (show i<v.length by omega),drop_eq (show j+i<u.length by omega)];simp only[Mo];rw[pM _ _ _ (by omega) (hu.set (by omega) (by omega) _) (by simpa using U2) (by simpa using OU)];rw[show j+(i+1)=j+i+1 by omega,uE (by omega),set_drop];simp only[List.append_assoc,List.singleton_append]
set_option maxHeartbeats 2000000 in
theorem S4 (hv:DU v)(OW:v.length=n)(hn:2≤n)(Lv:500000000≤v.getD (n - 1) 0){u q:List Int}(hu:DU u)(U2:j+n<u.length)(OU:u.length≤1000000000000)(hq:j<q.length)(YK:q.length≤1000000000000)
  (hlt:VU ((u.drop j).take (n+1))<VU v*1000000000):
  ∃u',dz k v n j q u=dz k v n ((j:Int) - 1) (q.set j (VU ((u.drop j).take (n+1)) / VU v)) u'∧u'.length=u.length∧DU u'∧u'.take j=u.take j∧VU ((u'.drop j).take n)=VU ((u.drop j).take (n+1)) % VU v:=by
 obtain⟨m,rfl⟩:∃m,n=m+2:=⟨n - 2,by omega⟩
 -- zw digits
 have Y5:(u.drop j).length=u.length - j:=by simp
 have hR:=S2 (l:=u.drop j) (m:=m) (by rw[Y5];omega);have hV:=S3 (l:=v) (m:=m) (by omega);rw[show v.take (m+2)=v from List.take_of_length_le (by omega)] at hV;simp only[mZ] at hR;have hP:(0:Int)<1000000000^m:=Int.pow_pos (by omega);have S1:=jz (B:=1000000000) (by omega) ((hu.drop j).take m);have W3:=sA (B:=1000000000) (by omega) ((hu.drop j).take m);have Ot:=jz (B:=1000000000) (by omega) (hv.take m);have hvl:=sA (B:=1000000000) (by omega) (hv.take m);rw[show ((u.drop j).take m).length=m by rw[List.length_take,Y5];omega] at W3;rw[show (v.take m).length=m by rw[List.length_take];omega] at hvl;have b1:=hv.getD (by omega) (m+1);have b2:=hv.getD (by omega) m;have c1:=hu.getD (by omega) (j+(m+2));have c2:=hu.getD (by omega) (j+(m+1));have c3:=hu.getD (by omega) (j+m);have acV:500000000≤v.getD (m+1) 0:=Lv;have acS:=U0 hP hvl S1 hV hR b2.2 c3.1 c2.1 hlt;have Ow:0<VU v:=by have e5:(1000000000:Int)^m*1≤1000000000^m*v.getD (m+1) 0:=Int.mul_le_mul_of_nonneg_left (by omega) (by omega);have e6:0≤(1000000000:Int)^m*v.getD m 0:=Int.mul_nonneg (by omega) b2.1;have hV':VU v=_:=hV;simp only[Int.mul_add,Int.mul_one,Int.mul_left_comm ((1000000000:Int)^m) 1000000000] at hV' e5;omega
 -- zw first aaM
 have aaN:0≤u.getD (j+(m+2)) 0*1000000000+u.getD (j+(m+1)) 0:=by omega
 obtain⟨g0,hg0⟩:∃g0:Nat,(u.getD (j+(m+2)) 0*1000000000+u.getD (j+(m+1)) 0) / v.getD (m+1) 0=g0:=Int.eq_ofNat_of_zero_le (Int.ediv_nonneg aaN (by omega));have OS:=Int.mul_ediv_add_emod (u.getD (j+(m+2)) 0*1000000000+u.getD (j+(m+1)) 0) (v.getD (m+1) 0);have Ng:=Int.emod_nonneg (u.getD (j+(m+2)) 0*1000000000+u.getD (j+(m+1)) 0) (show v.getD (m+1) 0≠0 by omega);have EA:=Int.emod_lt_of_pos (u.getD (j+(m+2)) 0*1000000000+u.getD (j+(m+1)) 0) (show 0<v.getD (m+1) 0 by omega);rw[hg0,Int.mul_comm] at OS;have Y6:val 1000000000 (List.take (m+3) (List.drop j u))<((g0:Int)+1)*VU v:=by
  -- zw two top digits are less acX (g0+1) v1
  refine W4 hP Ot W3 hV hR b2.1 c3.2 (by omega) ?_;rw[Int.add_mul];omega
 obtain⟨g,Zp,VR,hg3,hg4,hL1⟩:=Mp (k:=k) (q:=q) hP Ot hvl S1 W3 hV hR ⟨acV,b1.2⟩ b2 c1 c2 c3 hlt hn OW U2 OU rfl rfl rfl g0 _ OS.symm Ng (by omega) Y6;change VU ((u.drop j).take (m+2+1))<(g+1)*VU v at hg3;change g*VU v<VU ((u.drop j).take (m+2+1))+VU v at hg4
 -- zw walk as far as zw Ox
 have hgb:(g0:Int)≤1000000001:=by
  by_cases hc:(g0:Int)≤1000000001
  ·exact hc
  ·exfalso;have h6:(1000000002:Int)*v.getD (m+1) 0≤(g0:Int)*v.getD (m+1) 0:=Int.mul_le_mul_of_nonneg_right (by omega) (by omega);omega
 have w1:dz k v ((m+2:Nat):Int) j q u=gp k v ((m+2:Nat):Int) j g0 ((u.getD (j+(m+2)) 0*1000000000+u.getD (j+(m+1)) 0) % v.getD (m+1) 0) q u:=by
  rw[tU,rl];have e1:((j:Int)+((m+2:Nat):Int)).toNat=j+(m+2):=by omega
  have e2:((j:Int)+((m+2:Nat):Int) - 1).toNat=j+(m+1):=by omega
  have e3:(((m+2:Nat):Int) - 1).toNat=m+1:=by omega
  simp (disch:=omega) only[Jc,i64_in,oU,y6,e1,e2,e3,u64_in,xv,Ol];simp (disch:=omega) only[u64_in,xv,Ol,fL,jL,hg0]
 -- zw Ox
 have MF:((u.drop j).take (m+2)).length=v.length:=by rw[List.length_take,Y5];omega
 have aaO:u.drop j=(u.drop j).take (m+2)++(u.getD (j+(m+2)) 0::u.drop (j+(m+2)+1)):=by
  conv=>lhs;rw[Oo (u.drop j) (m+2)]
  rw[List.drop_drop,drop_eq (show j+(m+2)<u.length by omega)]
 obtain⟨r,b',FC,Jo,hs3,ZH,hs5⟩:=Ou (g:=g) ⟨Zp,by omega⟩ ((u.drop j).take (m+2)) v (u.getD (j+(m+2)) 0::u.drop (j+(m+2)+1)) 0 MF ((hu.drop j).take _) hv ⟨by omega,by omega⟩;have w2:=Mq (k:=k) (j:=j) (g:=g) ⟨Zp,by omega⟩ hv OW (m+2) 0 0 u q (by omega) ⟨by omega,by omega⟩ hu U2 OU;simp only[Nat.add_zero,List.drop_zero,Int.natCast_zero] at w2;rw[aaO,FC] at w2;have hRw:VU ((u.drop j).take (m+2+1))=VU ((u.drop j).take (m+2))+1000000000^(m+2)*u.getD (j+(m+2)) 0:=by rw[eH (show m+2<(u.drop j).length by rw[Y5];omega),VU,fj,mZ,MF,OW];simp[val]
 have XT:=sA (B:=1000000000) (by omega) hs3;have aaQ:=jz (B:=1000000000) (by omega) hs3;have XU:=sA (B:=1000000000) (by omega) hv;rw[ZH,MF,OW] at XT;rw[OW] at XU Jo;change VU ((u.drop j).take (m+2)) - 0 - g*VU v=VU r - 1000000000^(m+2)*b' at Jo;change VU r<_ at XT;change 0≤VU r at aaQ;change VU v<_ at XU;have hjl:(u.take j).length=j:=by simp;omega
 have hu1:DU (u.take j++(r++u.getD (j+(m+2)) 0::u.drop (j+(m+2)+1))):=(hu.take j).append (hs3.append (fp.cons c1.1 c1.2 (hu.drop _)));have aaR:(u.take j++(r++u.getD (j+(m+2)) 0::u.drop (j+(m+2)+1))).length=u.length:=by simp[ZH,MF,OW];omega
 have hx1:(u.take j++(r++u.getD (j+(m+2)) 0::u.drop (j+(m+2)+1))).getD (j+(m+2)) 0=u.getD (j+(m+2)) 0:=by
  have hrl:r.length=m+2:=by rw[ZH,MF,OW]
  rw[List.getD,List.getElem?_append_right (by omega),List.getElem?_append_right (by omega)];simp[hjl,hrl]
 have gF:∀(r:List Int) (y:Int),r.length=m+2→(u.take j++(r++u.getD (j+(m+2)) 0::u.drop (j+(m+2)+1))).set (j+(m+2)) y=u.take j++(r++y::u.drop (j+(m+2)+1)):=fun r y hrl=>by rw[List.set_append_right _ _ (by omega),List.set_append_right _ _ (by omega)];simp[hjl,hrl]
 have hdt:∀(r:List Int) (y:Int),r.length=m+2→((u.take j++(r++y::u.drop (j+(m+2)+1))).drop j).take (m+2)=r:=fun r y hrl=>by have h1:(u.take j++(r++y::u.drop (j+(m+2)+1))).drop j=r++y::u.drop (j+(m+2)+1):=List.drop_left' hjl;rw[h1];exact List.take_left' hrl
 have htk:∀(l:List Int),(u.take j++l).take j=u.take j:=fun l=>List.take_left' hjl;have e1:((j:Int)+((m+2:Nat):Int)).toNat=j+(m+2):=by omega
 have hPn:(0:Int)<1000000000^(m+2):=Int.pow_pos (by omega);have Jn:VU ((u.drop j).take (m+2+1)) - g*VU v=VU r+1000000000^(m+2)*(u.getD (j+(m+2)) 0 - b'):=by rw[hRw,Int.mul_sub];omega
 rw[w1,hL1,w2,tW,ry];by_cases hneg:u.getD (j+(m+2)) 0 - b'<0
 · -- one too many
   have aaS:VU ((u.drop j).take (m+2+1))<g*VU v:=by have h1:(1000000000:Int)^(m+2)*(u.getD (j+(m+2)) 0 - b'+1)≤1000000000^(m+2)*0:=Int.mul_le_mul_of_nonneg_left (by omega) (by omega);rw[Int.mul_add,Int.mul_zero,Int.mul_one] at h1;omega
   have aer:1≤g:=by
    by_cases hc:1≤g
    ·exact hc
    ·exfalso;have:g=0:=by omega
     subst this;have:=m4 ((hu.drop j).take (m+2+1));rw[Int.zero_mul] at aaS;omega
   have hq:VU ((u.drop j).take (m+2+1)) / VU v=g - 1∧VU ((u.drop j).take (m+2+1)) % VU v=VU ((u.drop j).take (m+2+1)) - (g - 1)*VU v:=by
    have h1:(g - 1)*VU v=g*VU v - VU v:=by rw[Int.sub_mul,Int.one_mul]
    have h2:VU ((u.drop j).take (m+2+1))=(VU ((u.drop j).take (m+2+1)) - (g - 1)*VU v)+VU v*(g - 1):=by rw[Int.mul_comm (VU v)];omega
    have h3:0≤VU ((u.drop j).take (m+2+1)) - (g - 1)*VU v:=by rw[h1];omega
    have h4:VU ((u.drop j).take (m+2+1)) - (g - 1)*VU v<VU v:=by rw[h1];omega
    constructor
    ·rw[h2,Int.add_mul_ediv_left _ _ (by omega),Int.ediv_eq_zero_of_lt h3 h4];omega
    ·conv=>lhs;rw[h2]
     rw[Int.add_mul_emod_self_left,Int.emod_eq_of_lt h3 h4]
   obtain⟨r2,cc,ha1,ha2,ha3,ha4,ha5⟩:=Ov r v (u.getD (j+(m+2)) 0::u.drop (j+(m+2)+1)) 0 (by rw[ZH,MF]) hs3 hv ⟨by omega,by omega⟩;have w3:=Mr (k:=k) (j:=j) (g:=g - 1) (x:=u.getD (j+(m+2)) 0 - b') hv OW (m+2) 0 0 _ q (by omega) ⟨by omega,by omega⟩ hu1 (by rw[aaR];exact U2) (by rw[aaR];exact OU);have hdj:(u.take j++(r++u.getD (j+(m+2)) 0::u.drop (j+(m+2)+1))).drop j=r++u.getD (j+(m+2)) 0::u.drop (j+(m+2)+1):=List.drop_left' hjl;simp only[Nat.add_zero,List.drop_zero,Int.natCast_zero] at w3;rw[hdj,ha1,htk] at w3;have U3:r2.length=m+2:=by rw[ha4,ZH,MF,OW]
   have hu2:DU (u.take j++(r2++u.getD (j+(m+2)) 0::u.drop (j+(m+2)+1))):=(hu.take j).append (ha3.append (fp.cons c1.1 c1.2 (hu.drop _)));have agj:(u.take j++(r2++u.getD (j+(m+2)) 0::u.drop (j+(m+2)+1))).length=u.length:=by simp[U3];omega
   refine⟨u.take j++(r2++0::u.drop (j+(m+2)+1)), ?_,by simp[U3];omega,(hu.take j).append (ha3.append (fp.cons (by omega) (by omega) (hu.drop _))),htk _, ?_⟩
   ·simp (disch:=omega) only[aY,i64_in,oU,y6,e1,hx1];simp (disch:=omega) only[aO,i64_in,u64_in];rw[w3,tX,rz,hq.1];simp (disch:=omega) only[aY,i64_in,oU,y6,e1,u32_in,gF r2 0 U3,Int.toNat_natCast]
   ·rw[hdt r2 0 U3,hq.2]
    -- zw carry takes zw missing unit
    have U4:=sA (B:=1000000000) (by omega) ha3;have Y7:=jz (B:=1000000000) (by omega) ha3;rw[U3] at U4;rw[OW] at ha2;change VU r+VU v+0=VU r2+1000000000^(m+2)*cc at ha2;change VU r2<_ at U4;change 0≤VU r2 at Y7;have h1:VU ((u.drop j).take (m+2+1)) - (g - 1)*VU v=VU r2+1000000000^(m+2)*(u.getD (j+(m+2)) 0 - b'+cc):=by rw[Int.sub_mul,Int.one_mul,Int.mul_add];omega
    have h3:0≤VU ((u.drop j).take (m+2+1)) - (g - 1)*VU v:=by rw[Int.sub_mul,Int.one_mul];omega
    have h4:VU ((u.drop j).take (m+2+1)) - (g - 1)*VU v<VU v:=by rw[Int.sub_mul,Int.one_mul];omega
    have h5:u.getD (j+(m+2)) 0 - b'+cc=0:=by
     by_cases hp:u.getD (j+(m+2)) 0 - b'+cc≥1
     ·exfalso;have:=Int.mul_le_mul_of_nonneg_left hp (show (0:Int)≤1000000000^(m+2) by omega);rw[Int.mul_one] at this;omega
     ·by_cases hm:u.getD (j+(m+2)) 0 - b'+cc≤ -1
      ·exfalso;have:=Int.mul_le_mul_of_nonneg_left hm (show (0:Int)≤1000000000^(m+2) by omega);rw[Int.mul_neg,Int.mul_one] at this;omega
      ·omega
    rw[h1,h5];simp
 · -- agk right
   have aet:g*VU v≤VU ((u.drop j).take (m+2+1)):=by have h1:(0:Int)≤1000000000^(m+2)*(u.getD (j+(m+2)) 0 - b'):=Int.mul_nonneg (by omega) (by omega);omega
   have h3:VU ((u.drop j).take (m+2+1)) - g*VU v<VU v:=by
    have:((g:Int)+1)*VU v=g*VU v+VU v:=by rw[Int.add_mul,Int.one_mul]
    rw[this] at hg3;omega
   have hq:VU ((u.drop j).take (m+2+1)) / VU v=g∧VU ((u.drop j).take (m+2+1)) % VU v=VU ((u.drop j).take (m+2+1)) - g*VU v:=by
    have h2:VU ((u.drop j).take (m+2+1))=(VU ((u.drop j).take (m+2+1)) - g*VU v)+VU v*g:=by rw[Int.mul_comm (VU v)];omega
    constructor
    ·rw[h2,Int.add_mul_ediv_left _ _ (by omega),Int.ediv_eq_zero_of_lt (by omega) h3];omega
    ·conv=>lhs;rw[h2]
     rw[Int.add_mul_emod_self_left,Int.emod_eq_of_lt (by omega) h3]
   have hrl:r.length=m+2:=by rw[ZH,MF,OW]
   have h5:u.getD (j+(m+2)) 0 - b'=0:=by
    by_cases hp:u.getD (j+(m+2)) 0 - b'≥1
    ·exfalso;have:=Int.mul_le_mul_of_nonneg_left hp (show (0:Int)≤1000000000^(m+2) by omega);rw[Int.mul_one] at this;omega
    ·omega
   refine⟨u.take j++(r++0::u.drop (j+(m+2)+1)), ?_,by simp[hrl];omega,(hu.take j).append (hs3.append (fp.cons (by omega) (by omega) (hu.drop _))),htk _, ?_⟩
   ·rw[hq.1];simp (disch:=omega) only[aY,i64_in,oU,y6,e1,hx1];simp (disch:=omega) only[aY,i64_in,oU,y6,e1,u32_in,gF r 0 hrl,Int.toNat_natCast]
   ·rw[hdt r 0 hrl,hq.2,Jn,h5];simp
end
end Go.Proofs.Ytcopbdamkjladaa.Ev
namespace Go.Abs
theorem A4 (l:List Int){m:Nat}(h:m<l.length):val 1000000000 (l.take (m+1))=val 1000000000 (l.take m)+1000000000^m*l.getD m 0:=by
 rw[eH h,fj];have:(l.take m).length=m:=by simp;omega
 rw[this];simp[val]
theorem S5 {b k:Int}(hb:1≤b)(hb':b<1000000000)(hk:k=1000000000 / (b+1)):1≤k∧k*(b+1)≤1000000000∧500000000≤k*b∧k≤500000000:=by
 have h1:=Int.mul_ediv_add_emod 1000000000 (b+1);have h2:=Int.emod_nonneg 1000000000 (show b+1≠0 by omega);have h3:=Int.emod_lt_of_pos 1000000000 (show 0<b+1 by omega);rw[←hk,Int.mul_comm] at h1;have hk1:1≤k:=by
  by_cases hc:1≤k
  ·exact hc
  ·exfalso;have:k*(b+1)≤0*(b+1):=Int.mul_le_mul_of_nonneg_right (by omega) (by omega);rw[Int.zero_mul] at this;omega
 have e1:k*(b+1)=k*b+k:=by rw[Int.mul_add,Int.mul_one]
 have e5:k*2≤k*(b+1):=Int.mul_le_mul_of_nonneg_left (by omega) (by omega);refine⟨hk1,by omega, ?_,by omega⟩;by_cases hk2:k=1
 ·subst hk2;omega
 ·have e2:0≤(k - 2)*(b+1 - 2):=Int.mul_nonneg (by omega) (by omega);have e3:(k - 2)*(b+1 - 2)=k*b - k - 2*b+2:=by rw[show b+1 - 2=b - 1 by omega,Int.sub_mul,Int.mul_sub,Int.mul_sub];omega
  omega
end Go.Abs
namespace Go.Proofs.Ytcopbdamkjladaa.Ev
open Go.Abs Go.IntWalk
section
variable {k:Int}{v:List Int}{n:Nat}
theorem P7 (hv:DU v)(OW:v.length=n)(hn:2≤n)(Lv:500000000≤v.getD (n - 1) 0):∀(J:Nat) (q u:List Int),DU q→DU u→J≤q.length→J+n≤u.length→u.length≤1000000000000→q.length≤1000000000000→VU ((u.drop J).take n)<VU v→
  ∃q' u',dz k v n ((J:Int) - 1) q u=dz k v n (-1) q' u'∧q'.length=q.length∧DU q'∧u'.length=u.length∧DU u'∧q'.drop J=q.drop J∧
   VU (u.take J)+1000000000^J*VU ((u.drop J).take n)=VU v*VU (q'.take J)+VU (u'.take n)∧VU (u'.take n)<VU v:=by
 intro J;induction J with
 |zero=>intro q u hq hu h1 h2 h3 h4 hx;refine⟨q,u,rfl,rfl,hq,rfl,hu,rfl, ?_,by simpa using hx⟩;simp[VU,val]
 |succ J ih=>
  intro q u hq hu h1 h2 h3 h4 hx;have hw:(u.drop J).take (n+1)=u.getD J 0::(u.drop (J+1)).take n:=by rw[drop_eq (show J<u.length by omega),List.take_succ_cons]
  have hd:=hu.getD (by omega) J;have hRv:VU ((u.drop J).take (n+1))=u.getD J 0+1000000000*VU ((u.drop (J+1)).take n):=by rw[hw];rfl
  have hXn:=m4 ((hu.drop (J+1)).take n);have acZ:VU ((u.drop J).take (n+1))<VU v*1000000000:=by rw[hRv];omega
  obtain⟨u1,s1,s2,s3,s4,s5⟩:=S4 (k:=k) hv OW hn Lv hu (show J+n<u.length by omega) h3 (show J<q.length by omega) h4 acZ;have Ow:0<VU v:=by omega
  have ac0:0≤VU ((u.drop J).take (n+1)):=by omega
  have q0:0≤VU ((u.drop J).take (n+1)) / VU v:=Int.ediv_nonneg ac0 (by omega);have q1:VU ((u.drop J).take (n+1)) / VU v<1000000000:=Int.ediv_lt_of_lt_mul Ow (by rw[Int.mul_comm];omega);obtain⟨q',u',t1,t2,t3,t4,t5,t6,t7,t8⟩:=ih (q.set J (VU ((u.drop J).take (n+1)) / VU v)) u1 (hq.set q0 q1 _) s3 (by simp;omega) (by omega) (by omega) (by simpa using h4) (by rw[s5];exact Int.emod_lt_of_pos _ Ow);have hJq:J<q'.length:=by rw[t2];simp;omega
  have hqJ:q'.getD J 0=VU ((u.drop J).take (n+1)) / VU v:=by
   have e:(q'.drop J).getD 0 0=((q.set J (VU ((u.drop J).take (n+1)) / VU v)).drop J).getD 0 0:=by rw[t6]
   rw[mZ,mZ,Nat.add_zero] at e;rw[e];simp[List.getD,show J<q.length by omega]
  refine⟨q',u', ?_,by rw[t2];simp,t3,by rw[t4,s2],t5, ?_, ?_,t8⟩
  ·rw[show ((J+1:Nat):Int) - 1=J by omega,s1,t1]
  ·have e:(q'.drop J).drop 1=((q.set J (VU ((u.drop J).take (n+1)) / VU v)).drop J).drop 1:=by rw[t6]
   rw[List.drop_drop,List.drop_drop,set_drop] at e;exact e
  ·have e1:=A4 u (show J<u.length by omega);have e2:=A4 q' hJq;have e3:=Int.mul_ediv_add_emod (VU ((u.drop J).take (n+1))) (VU v);rw[s4,s5] at t7;rw[hqJ] at e2;change VU (u.take (J+1))=VU (u.take J)+1000000000^J*u.getD J 0 at e1;change VU (q'.take (J+1))=VU (q'.take J)+1000000000^J*(VU ((u.drop J).take (n+1)) / VU v) at e2;have e4:(1000000000:Int)^J*VU ((u.drop J).take (n+1))=1000000000^J*u.getD J 0+1000000000^(J+1)*VU ((u.drop (J+1)).take n):=by rw[hRv,Int.mul_add,Int.pow_succ,Int.mul_assoc]
   have e5:VU v*VU (q'.take (J+1))=VU v*VU (q'.take J)+1000000000^J*(VU v*(VU ((u.drop J).take (n+1)) / VU v)):=by rw[e2,Int.mul_add,Int.mul_left_comm]
   have e6:(1000000000:Int)^J*VU ((u.drop J).take (n+1))=1000000000^J*(VU v*(VU ((u.drop J).take (n+1)) / VU v))+1000000000^J*(VU ((u.drop J).take (n+1)) % VU v):=by rw[←Int.mul_add,e3]
   omega
end
theorem KS {N:Nat}{n:Nat}(hl:(dU N).length=n+1){x:Int}(h:x*1000000000^n≤N):x≤(dU N).getD n 0:=by
 have h1:=A4 (dU N) (show n<(dU N).length by omega);rw[List.take_of_length_le (by omega)] at h1;have h2:=sA (B:=1000000000) (by omega) ((wh N).take n);rw[show ((dU N).take n).length=n by rw[List.length_take];omega] at h2;have h3:=sZ N;rw[VU] at h3;by_cases hc:x≤(dU N).getD n 0
 ·exact hc
 ·exfalso;have h4:(1000000000:Int)^n*((dU N).getD n 0+1)≤1000000000^n*x:=Int.mul_le_mul_of_nonneg_left (by omega) (Int.pow_nonneg (by omega));rw[Int.mul_add,Int.mul_one,Int.mul_comm _ x] at h4;omega
theorem ofNat_pow (n:Nat):((1000000000^n:Nat):Int)=(1000000000:Int)^n:=by rw[Int.natCast_pow];rfl
theorem Oy {A B:Nat}(hl:(dU A).length≤100000000000)(hB:2≤(dU B).length)(hAB:B≤A):
  ∃q r,tD (dU A) (dU B)=some (q,r)∧DU q∧DU r∧VU q=((A / B:Nat):Int)∧VU r=((A % B:Nat):Int)∧q.length≤(dU A).length∧r.length≤(dU A).length:=by
 obtain⟨n,hn⟩:∃n,(dU B).length=n+1:=⟨(dU B).length - 1,by omega⟩
 have aaT:0<B:=by
  by_cases h:B=0
  ·subst h;rw[show dU 0=[] from eQ _] at hB;simp at hB
  ·omega
 have ago:=Rg hAB;have hdA:=wh A;have hdB:=wh B
 -- zw top digit of zw W5
 have aaV:(1000000000^n:Nat)≤B:=(gX (B:=1000000000) (by omega) n B).1 (show n<(dU B).length by omega);have ht1:1≤(dU B).getD n 0:=KS hn (by rw[Int.one_mul, ←ofNat_pow];omega);have ht2:=hdB.getD (by omega) n;obtain⟨k,hk⟩:∃k,k=(1000000000:Int) / ((dU B).getD n 0+1):=⟨_,rfl⟩
 obtain⟨hk1,hk2,hk3,hk4⟩:=S5 ht1 ht2.2 hk;obtain⟨K,rfl⟩:=Int.eq_ofNat_of_zero_le (show 0≤k by omega)
 -- zw scaled numbers
 obtain⟨u1,u2,u3⟩:=Mn (dU A) K 0 hdA ⟨by omega,by omega⟩ ⟨by omega,by omega⟩;obtain⟨w1,w2,w3⟩:=Mn (dU B) K 0 hdB ⟨by omega,by omega⟩ ⟨by omega,by omega⟩;rw[sZ,Int.add_zero] at u1 w1;have hv:ke (G4 (dU B) K 0)=dU (B*K):=by rw[UY w2,w1, ←Int.natCast_mul,Int.toNat_natCast]
 -- its length
 have ac1:=A4 (dU B) (show n<(dU B).length by omega);rw[List.take_of_length_le (by omega)] at ac1;have aaW:=sA (B:=1000000000) (by omega) (hdB.take n);have aex:=jz (B:=1000000000) (by omega) (hdB.take n);rw[show ((dU B).take n).length=n by rw[List.length_take];omega] at aaW;have hVB:=sZ B;rw[VU] at hVB;have hPn:(0:Int)<1000000000^n:=Int.pow_pos (by omega);have hBK:B*K<1000000000^(n+1):=by have h1:(B:Int)*K≤(1000000000^n*((dU B).getD n 0+1) - 1)*K:=Int.mul_le_mul_of_nonneg_right (by rw[Int.mul_add,Int.mul_one];omega) (by omega);have h2:(1000000000:Int)^n*(K*((dU B).getD n 0+1))≤1000000000^n*1000000000:=Int.mul_le_mul_of_nonneg_left hk2 (by omega);rw[Int.sub_mul,Int.one_mul,Int.mul_assoc,Int.mul_comm ((dU B).getD n 0+1) (K:Int)] at h1;have h3:=ofNat_pow (n+1);rw[Int.pow_succ] at h3;have h4:((B*K:Nat):Int)=(B:Int)*K:=Int.natCast_mul _ _;omega
 have ac2:1000000000^n≤B*K:=Nat.le_trans aaV (Nat.le_mul_of_pos_right _ (by omega));have hvl:(dU (B*K)).length=n+1:=by have h1:=(bg (B:=1000000000) (by omega) (n+1) (B*K)).2 hBK;have h2:=(gX (B:=1000000000) (by omega) n (B*K)).2 ac2;show (KQ 1000000000 (B*K)).length=n+1;omega
 have Lv:500000000≤(dU (B*K)).getD (n+1 - 1) 0:=by
  refine KS (N:=B*K) hvl ?_;have h1:(K*(dU B).getD n 0)*1000000000^n≤(B:Int)*K:=by have h2:1000000000^n*(dU B).getD n 0*K≤(B:Int)*K:=Int.mul_le_mul_of_nonneg_right (by omega) (by omega);rw[Int.mul_comm (K*_),Int.mul_comm (K:Int), ←Int.mul_assoc];exact h2
  have h3:500000000*(1000000000:Int)^n≤(K*(dU B).getD n 0)*1000000000^n:=Int.mul_le_mul_of_nonneg_right hk3 (by omega);rw[Int.natCast_mul];omega
 have hvD:=wh (B*K);have hVv:VU (dU (B*K))=(B:Int)*K:=by rw[sZ,Int.natCast_mul]
 -- zw loop
 have OU:(G4 (dU A) K 0).length=(dU A).length+1:=u3;obtain⟨J,hJ⟩:∃J,(dU A).length+1=J+(n+1):=⟨(dU A).length - n,by omega⟩
 have hstart:VU (((G4 (dU A) K 0).drop J).take (n+1))<VU (dU (B*K)):=by
  rw[List.take_of_length_le (by rw[List.length_drop];omega),hVv];have h1:=fj 1000000000 ((G4 (dU A) K 0).take J) ((G4 (dU A) K 0).drop J);rw[List.take_append_drop,show ((G4 (dU A) K 0).take J).length=J by rw[List.length_take];omega] at h1;have h2:=m4 (u2.take J);have h3:=u1;rw[VU] at h3 h2
  -- a<U^la
  have h4:A<1000000000^(dU A).length:=(bg (B:=1000000000) (by omega) _ A).1 (Nat.le_refl _);rw[show (dU A).length=J+n by omega,Nat.pow_add] at h4;have h5:((1000000000^J*1000000000^n:Nat):Int)=(1000000000:Int)^J*1000000000^n:=by rw[Int.natCast_mul,ofNat_pow,ofNat_pow]
  have hPJ:(0:Int)<1000000000^J:=Int.pow_pos (by omega);have h6:(A:Int)*K<(1000000000^J*1000000000^n)*K:=Int.mul_lt_mul_of_pos_right (by omega) (by omega);have h7:(1000000000:Int)^n*K≤(B:Int)*K:=Int.mul_le_mul_of_nonneg_right (by rw[←ofNat_pow];omega) (by omega);have h8:(1000000000:Int)^J*val 1000000000 ((G4 (dU A) K 0).drop J)<1000000000^J*(1000000000^n*K):=by rw[←Int.mul_assoc];omega
  have h9:=Int.lt_of_mul_lt_mul_left h8 (by omega);show val 1000000000 ((G4 (dU A) K 0).drop J)<_;omega
 obtain⟨q',u',t1,t2,t3,t4,t5,t6,t7,t8⟩:=P7 (k:=K) hvD hvl (by omega) Lv J (List.replicate J 0) (G4 (dU A) K 0) (fp.replicate (by omega) _) u2 (by simp) (by omega) (by omega) (by simp;omega) hstart;rw[List.length_replicate] at t2;have htq:q'.take J=q':=List.take_of_length_le (by omega);rw[htq,hVv] at t7;have hU0:VU ((G4 (dU A) K 0).take J)+1000000000^J*VU (((G4 (dU A) K 0).drop J).take (n+1))=(A:Int)*K:=by rw[List.take_of_length_le (l:=(G4 (dU A) K 0).drop J) (by rw[List.length_drop];omega), ←u1];have h1:=fj 1000000000 ((G4 (dU A) K 0).take J) ((G4 (dU A) K 0).drop J);rw[List.take_append_drop,show ((G4 (dU A) K 0).take J).length=J by rw[List.length_take];omega] at h1;exact h1.symm
 rw[hU0] at t7
 -- zw rest is aaX
 have Tn:=t5.take (n+1);have Y8:=Ee (b:=(K:Int)) Tn ⟨by omega,by omega⟩ (by rw[List.length_take];omega);obtain⟨s1,s2,s3,s4,s5⟩:=Ed (b:=(K:Int)) ⟨by omega,by omega⟩ _ Tn;have hQ0:=m4 t3;have Ng:=m4 s4;have aeA:(0:Int)<K:=by omega
 -- A=B q+r
 have hAq:(A:Int)=B*VU q'+VU (uK K (u'.take (n+1))).1:=by
  have h1:((A:Int) - B*VU q' - VU (uK K (u'.take (n+1))).1)*K=(uK K (u'.take (n+1))).2:=by
   rw[Int.sub_mul,Int.sub_mul];have:(B:Int)*VU q'*K=B*K*VU q':=by rw[Int.mul_assoc,Int.mul_comm (VU q'), ←Int.mul_assoc]
   rw[this];omega
  have h2:(A:Int) - B*VU q' - VU (uK K (u'.take (n+1))).1=0:=by
   by_cases hp:(A:Int) - B*VU q' - VU (uK K (u'.take (n+1))).1≥1
   ·exfalso;have:=Int.mul_le_mul_of_nonneg_right hp (show (0:Int)≤K by omega);rw[Int.one_mul] at this;omega
   ·by_cases hm:(A:Int) - B*VU q' - VU (uK K (u'.take (n+1))).1≤ -1
    ·exfalso;have:=Int.mul_le_mul_of_nonneg_right hm (show (0:Int)≤K by omega);rw[Int.neg_mul,Int.one_mul] at this;omega
    ·omega
  omega
 have hrB:VU (uK K (u'.take (n+1))).1<B:=by
  have h1:VU (uK K (u'.take (n+1))).1*K<(B:Int)*K:=by rw[hVv] at t8;omega
  exact Int.lt_of_mul_lt_mul_right h1 (by omega)
 obtain⟨Q,hQ⟩:=Int.eq_ofNat_of_zero_le hQ0;obtain⟨r,hr⟩:=Int.eq_ofNat_of_zero_le Ng;rw[hQ,hr] at hAq;rw[hr] at hrB;have XV:A=B*Q+r:=by
  have:((B*Q+r:Nat):Int)=(B:Int)*Q+r:=by rw[Int.natCast_add,Int.natCast_mul]
  omega
 have W2:A / B=Q:=by rw[XV,Nat.mul_add_div aaT,Nat.div_eq_of_lt (by omega)];omega
 have EA:A % B=r:=by rw[XV,Nat.mul_add_mod,Nat.mod_eq_of_lt (by omega)]
 refine⟨q',(uK K (u'.take (n+1))).1, ?_,t3,s4,by rw[hQ,W2],by rw[hr,EA],by omega,by rw[s5,List.length_take];omega⟩
 -- zw walk
 rw[F7,Cx];have e1:(((dU B).length:Int) - 1).toNat=n:=by omega
 simp (disch:=omega) only[i64_in,oU,e1,u64_in,xv,Ol,jL];rw[←hk];simp (disch:=omega) only[u64_in,u32_in];rw[B9 hdA ⟨by omega,by omega⟩ (by omega),bS,B9 hdB ⟨by omega,by omega⟩ (by omega),bS,AA (by omega),bS,hv];simp (disch:=omega) only[i64_in,Jd,OU,hvl];have e2:((((dU A).length+1:Nat):Int) - ((n+1:Nat):Int)).toNat=J:=by omega
 have e3:(((dU A).length+1:Nat):Int) - ((n+1:Nat):Int) - 1=(J:Int) - 1:=by omega
 rw[e2,e3,t1,tU,rl];simp (disch:=omega) only[Gn,W0,Int.toNat_natCast];rw[Y8,bS]
theorem Ms {A B:Nat}(hl:(dU A).length≤100000000000)(hl':(dU B).length≤100000000000)(hB:0<B):
  ∃q r,mT (dU A) (dU B)=some (q,r)∧DU q∧DU r∧VU q=((A / B:Nat):Int)∧VU r=((A % B:Nat):Int)∧q.length≤1000000000000∧r.length≤1000000000000:=by
 rw[DF,zR,vy (by omega) (by omega),bS];by_cases h:A<B
 ·rw[n6 (by omega),aO (by omega)];refine⟨[],dU A,rfl,fp.nil,wh A, ?_, ?_,by simp,by omega⟩
  ·rw[Nat.div_eq_of_lt h];rfl
  ·rw[Nat.mod_eq_of_lt h,sZ]
 ·have hc:¬nS (A:Int) B<0:=by unfold nS;rw[if_neg (by omega)];split<;>omega
  rw[aY hc];by_cases h1:(dU B).length=1
  ·rw[yP (by omega)];have hd:=(wh B).getD (by omega) 0;have hBv:(dU B).getD 0 0=B:=by
    have h2:=sZ B;cases hb:dU B with
    |nil=>rw[hb] at h1;simp at h1
    |cons x xs=>
     rw[hb] at h1 h2;have:xs=[]:=by simpa using h1
     subst this;simpa [VU,val] using h2
   rw[hBv] at hd;obtain⟨s1,s2,s3,s4,s5⟩:=Ed (b:=(B:Int)) ⟨by omega,hd.2⟩ (dU A) (wh A);have ht:ke [(uK (B:Int) (dU A)).2]=dU (uK (B:Int) (dU A)).2.toNat:=by have:DU [(uK (B:Int) (dU A)).2]:=fp.cons s2 (by omega) fp.nil;rw[UY this];simp[VU,val]
   simp (disch:=omega) only[oU,Int.toNat_zero,hBv];rw[Ee (wh A) ⟨by omega,hd.2⟩ (by omega),bS,AA (by simp),bS,ht];obtain⟨r,hr⟩:=Int.eq_ofNat_of_zero_le s2;obtain⟨Q,hQ⟩:=Int.eq_ofNat_of_zero_le (m4 s4);rw[sZ,hQ,hr] at s1;rw[hr] at s3;have XV:A=B*Q+r:=by
    have:((B*Q+r:Nat):Int)=(B:Int)*Q+r:=by rw[Int.natCast_add,Int.natCast_mul]
    rw[Int.mul_comm] at s1;omega
   have W2:A / B=Q:=by rw[XV,Nat.mul_add_div hB,Nat.div_eq_of_lt (by omega)];omega
   have EA:A % B=r:=by rw[XV,Nat.mul_add_mod,Nat.mod_eq_of_lt (by omega)]
   refine⟨_,_,rfl,s4,wh _,by rw[hQ,W2],by rw[sZ,hr,EA];rfl,by omega, ?_⟩;rw[hr,Int.toNat_natCast];have:=(bg (B:=1000000000) (by omega) 1 r).2 (by omega);show (KQ 1000000000 r).length≤_;omega
  ·rw[xv (by omega)];have hne:(dU B).length≠0:=fun e=>by have:=(ov (B:=1000000000) (n:=B) (by omega)).1 (List.length_eq_zero_iff.1 e);omega
   obtain⟨q,r,e1,e2,e3,e4,e5,e6,e7⟩:=Oy (A:=A) (B:=B) hl (by omega) (by omega);rw[e1,bS];exact⟨q,r,rfl,e2,e3,e4,e5,by omega,by omega⟩
theorem U5:Ln 1=1:=by have h1:=UZ (x:=1) (by decide);have h2:=vz 1;omega
theorem sN {x y:Int}(hx:Ln x≤10000000000)(hy:Ln y≤10000000000)(hy0:y≠0):ak (W x) (W y)=some (W (x.fdiv y),W (x.fmod y)):=by
 rw[sF,od];simp only[Y1,Y2];obtain⟨q,r,e1,e2,e3,e4,e5,e6,e7⟩:=Ms (A:=x.natAbs) (B:=y.natAbs) (by rw[fk];omega) (by rw[fk];omega) (by omega);rw[e1,bS,jA e2 (by omega),bS,jA e3 (by omega),bS,e4,e5];obtain⟨A,hA⟩:∃A,A=x.natAbs:=⟨_,rfl⟩
 obtain⟨B,hB⟩:∃B,B=y.natAbs:=⟨_,rfl⟩
 rw[←hA, ←hB];have OS:=Nat.div_add_mod A B;have hlt:=Nat.mod_lt A (show B>0 by omega);have hq:A / B≤A:=Nat.div_le_self _ _;have hr:A % B≤A:=Nat.mod_le _ _;have aaY:(B:Int)*((A / B:Nat):Int)+((A % B:Nat):Int)=A:=by rw[←Int.natCast_mul, ←Int.natCast_add,OS]
 obtain⟨Q,hQ⟩:∃Q,Q=((A / B:Nat):Int):=⟨_,rfl⟩
 obtain⟨M,hM⟩:∃M,M=((A % B:Nat):Int):=⟨_,rfl⟩
 rw[←hQ, ←hM] at aaY ⊢;have hM0:0≤M:=by omega
 have hMB:M<B:=by omega
 have hMA:M≤A:=by rw[hM];exact Int.ofNat_le.2 hr
 have hQA:Q≤A:=by rw[hQ];exact Int.ofNat_le.2 hq
 have hQ0:0≤Q:=by rw[hQ];exact Int.natCast_nonneg _
 have aaZ:∀z:Int,z.natAbs=Q.natAbs→Ln z≤10000000000:=fun z hz=>by have:=Ri (x:=z) (y:=x) (by omega);omega
 have aa0:∀z:Int,z.natAbs=M.natAbs→Ln z≤10000000000:=fun z hz=>by have:=Ri (x:=z) (y:=x) (by omega);omega
 -- zw four cases of aeC
 by_cases h1:x<0<;>by_cases h2:y<0
 · -- both negative
   have hx':x= -(A:Int):=by omega
   have hy':y= -(B:Int):=by omega
   rw[gI h1,gI h2];simp only[beq_self_eq_true,Bool.not_true,cF,cT];rw[Rj (-M),fl,bS];have hu:=(Int.fdiv_fmod_unique' (a:=x) (b:=y) (r:= -M) (q:=Q) h2).2 ⟨by rw[hx',hy',Int.neg_mul];omega,by omega,by omega⟩;rw[hu.1,hu.2];by_cases hz:M=0
   ·rw[pK (by rw[hz]<;>rfl)]<;>rfl
   ·rw[vw (by unfold CQ;rw[if_pos (by omega)];omega)]<;>rfl
 · -- x negative
   have hx':x= -(A:Int):=by omega
   have hy':y=(B:Int):=by omega
   rw[gI h1,gv h2];simp only[show (true==false)=false from rfl,Bool.not_false,cF,cT];rw[Rj (-M),fl,bS];by_cases hz:M=0
   ·have hu:=(Int.fdiv_fmod_unique (a:=x) (b:=y) (r:= -M) (q:= -Q) (by omega)).2 ⟨by rw[hx',hy',Int.mul_neg];omega,by omega,by omega⟩;rw[hu.1,hu.2,pK (by rw[hz]<;>rfl)]<;>rfl
   ·have hu:=(Int.fdiv_fmod_unique (a:=x) (b:=y) (r:= -M+y) (q:= -Q - 1) (by omega)).2 ⟨by rw[hx',hy',Int.mul_sub,Int.mul_neg];omega,by omega,by omega⟩;rw[hu.1,hu.2,vw (by unfold CQ;rw[if_pos (by omega)];omega),Fq (by omega) (by omega),bS];show (dZ (W (-Q)) (W 1)).bind _=_;rw[xw (by have:=aaZ (-Q) (by omega);omega) (by rw[U5];omega),bS];have hWy:(false,dU B,())=W y:=by
     show _=(decide (y<0),dU y.natAbs,())
     rw[gv h2, ←hB]
    rw[hWy];show (bp (W (-M)) (W y)).bind _=_;rw[m5 (by have:=aa0 (-M) (by omega);omega) (by omega),bS]
 · -- y negative
   have hx':x=(A:Int):=by omega
   have hy':y= -(B:Int):=by omega
   rw[gv h1,gI h2];simp only[show (false==true)=false from rfl,Bool.not_false,cF,cT];rw[Rj M,fl,bS];by_cases hz:M=0
   ·have hu:=(Int.fdiv_fmod_unique' (a:=x) (b:=y) (r:=M) (q:= -Q) (by omega)).2 ⟨by rw[hx',hy',Int.neg_mul_neg];omega,by omega,by omega⟩;rw[hu.1,hu.2,pK (by rw[hz]<;>rfl)]<;>rfl
   ·have hu:=(Int.fdiv_fmod_unique' (a:=x) (b:=y) (r:=M+y) (q:= -Q - 1) (by omega)).2 ⟨by rw[hx',hy',Int.mul_sub,Int.neg_mul_neg];omega,by omega,by omega⟩;rw[hu.1,hu.2,vw (by unfold CQ;rw[if_neg (by omega),if_pos (by omega)];omega),Fq (by omega) (by omega),bS];show (dZ (W (-Q)) (W 1)).bind _=_;rw[xw (by have:=aaZ (-Q) (by omega);omega) (by rw[U5];omega),bS];have hWy:(true,dU B,())=W y:=by
     show _=(decide (y<0),dU y.natAbs,())
     rw[gI h2, ←hB]
    rw[hWy];show (bp (W M) (W y)).bind _=_;rw[m5 (by have:=aa0 M (by omega);omega) (by omega),bS]
 · -- none negative
   have hx':x=(A:Int):=by omega
   have hy':y=(B:Int):=by omega
   rw[gv h1,gv h2];simp only[beq_self_eq_true,Bool.not_true,cF,cT];rw[Rj M,fl,bS];have hu:=(Int.fdiv_fmod_unique (a:=x) (b:=y) (r:=M) (q:=Q) (by omega)).2 ⟨by rw[hx',hy'];omega,by omega,by omega⟩;rw[hu.1,hu.2];by_cases hz:M=0
   ·rw[pK (by rw[hz]<;>rfl)]<;>rfl
   ·rw[vw (by unfold CQ;rw[if_neg (by omega),if_pos (by omega)];omega)]<;>rfl
abbrev Wt:=Bool×List Int×Unit
abbrev HW:=List (Option (List Wt))
abbrev HN:=List (Option (List Nat))
abbrev wz:Wt:=(false,([],()))
theorem s7 (x:Int):((W x).1,((W x).2.1,()))=W x:=rfl
theorem A5 {α:Type}{xs:List (Option (List α))}{n:Nat}{l l':List α}(h:ae xs n=some l)(h0:n≠0):ae (gF xs n l') n=some l':=by
 obtain⟨m,rfl⟩:∃m,n=m+1:=⟨n - 1,by omega⟩
 have hlt:m<xs.length:=by
  rcases Nat.lt_or_ge m xs.length with g |g
  ·exact g
  ·have:(match xs[m]? with |some o=>o |none=>none)=some l:=h;rw[List.getElem?_eq_none g] at this;cases this
 show (match (xs.set m (some l'))[m]? with |some o=>o |none=>none)=some l';simp[hlt]
theorem Mt {α:Type}{xs:List (Option (List α))}{n r:Nat}{l l':List α}(h:ae xs r=some l)(hne:r≠n):ae (gF xs n l') r=some l:=by
 cases n with
 |zero=>exact h
 |succ n=>
  cases r with
  |zero=>exact h
  |succ r=>show (match (xs.set n (some l'))[r]? with |some o=>o |none=>none)=some l;rw[List.getElem?_set_ne (by omega)];exact h
theorem S6 {α:Type}{xs:List (Option (List α))}{n:Nat}{a b:List α}:gF (gF xs n a) n b=gF xs n b:=by
 cases n with
 |zero=>rfl
 |succ n=>exact List.set_set ..
theorem sS {α:Type}{xs:List (Option (List α))}{n:Nat}{l:List α}(h:ae xs n=some l):n≤xs.length:=by
 cases n with
 |zero=>exact Nat.zero_le _
 |succ n=>
  rcases Nat.lt_or_ge n xs.length with g |g
  ·exact g
  ·have:(match xs[n]? with |some o=>o |none=>none)=some l:=h;rw[List.getElem?_eq_none g] at this;cases this
theorem AD {α:Type}{xs ys:List (Option (List α))}{n:Nat}{l:List α}(h:ae xs n=some l):ae (xs++ys) n=some l:=by
 cases n with
 |zero=>exact h
 |succ n=>have:=sS h;show (match (xs++ys)[n]? with |some o=>o |none=>none)=some l;rw[List.getElem?_append_left (by omega)];exact h
theorem Je {α:Type}{xs:List (Option (List α))}{l:List α}:ae (xs++[some l]) (xs.length+1)=some l:=by simp[ae]
theorem S7 {α:Type}(xs:List (Option (List α)))(m:Nat):(jB xs m).length=xs.length:=by cases m<;>simp[jB]
theorem P8 {α:Type}{xs:List (Option (List α))}{m r:Nat}{l:List α}(h:ae xs r=some l)(hne:r=m→r=0):ae (jB xs m) r=some l:=by
 cases r with
 |zero=>exact h
 |succ r=>
  cases m with
  |zero=>exact h
  |succ m=>show (match (xs.set m none)[r]? with |some o=>o |none=>none)=some l;rw[List.getElem?_set_ne (fun e=>by have:=hne (by omega);omega)];exact h
theorem gJ {α β:Type}(d:α){xs:List α}{k:Nat}{f:α→Option β}(h:k<xs.length):(idx xs (k:Int)).bind f=f (xs.getD k d):=by rw[WY d (by omega) (by omega),Int.toNat_natCast];exact bS _ _
theorem aa1 {α β:Type}(d:α){xs:List α}{k:Nat}{f:α→Option β}(h:k<xs.length):(xs[k]?).bind f=f (xs.getD k d):=by rw[List.getElem?_eq_getElem h];simp[List.getD,h]
theorem vA {α β:Type}(d:α){xs:List α}{i:Nat}{f:α→Option β}(h:i<xs.length):((idx xs (i:Int)).bind fun _=>(xs[(i:Int).toNat]?).bind f)=f (xs.getD i d):=by rw[gJ d h,Int.toNat_natCast,aa1 d h]
theorem ac5 {α β:Type}(d:α){xs:List α}{f:α→Option β}(h:0<xs.length):((idx xs (0:Int)).bind fun _=>(xs[(0:Int).toNat]?).bind f)=f (xs.getD 0 d):=vA (i:=0) d h
theorem m7 {α:Type}(d:α){l:List α}{k j:Nat}{v:α}:(l.set k v).getD j d=if k=j∧k<l.length then v else l.getD j d:=by
 by_cases h:k=j
 ·subst h;by_cases h2:k<l.length<;>simp[List.getD,h2]
 ·simp[List.getD,h]
theorem m8 {i:Nat}(h:i≤1000000000):IntKind.wrap .i64 ((i:Int)+1)=((i+1:Nat):Int):=by have:IntKind.wrap .i64 ((i:Int)+1)=(i:Int)+1:=i64_in _ (by omega);rw[this];omega
def y7 (w:Nat)(f:Nat→Int):List Wt:=(List.range w).map fun q=>W (f q)
theorem dC {w:Nat}{f:Nat→Int}:(y7 w f).length=w:=by simp[y7]
theorem fF {w q:Nat}{f:Nat→Int}(h:q<w):(y7 w f).getD q wz=W (f q):=by simp[y7,List.getD,h]
theorem Oz {w:Nat}{l:List Wt}{f:Nat→Int}(hl:l.length=w)(h:∀q,q<w→l.getD q wz=W (f q)):l=y7 w f:=by apply List.ext_getElem (by rw[hl,dC]);intro q h1 h2;have e:=h q (by omega);have e2:=fF (w:=w) (f:=f) (show q<w by omega);simp only[List.getD,List.getElem?_eq_getElem h1,List.getElem?_eq_getElem h2,Option.getD_some] at e e2;rw[e,e2]
theorem OA {w q:Nat}{f:Nat→Int}{x:Int}:(y7 w f).set q (W x)=y7 w (fun j=>if j=q then x else f j):=Oz (by rw[List.length_set,dC]) fun j hj=>by
 rw[m7,dC,fF hj];by_cases e:q=j
 ·subst e;rw[if_pos ⟨rfl,hj⟩,if_pos rfl]
 ·rw[if_neg (fun h=>e h.1),if_neg (fun h=>e h.symm)]
theorem CS {w:Nat}{f f':Nat→Int}(h:∀q,q<w→f q=f' q):y7 w f=y7 w f':=Oz dC fun q hq=>by rw[fF hq,h q hq]
structure GM (ah:HW) (ai:HN) (g N w:Nat) (rs:List Nat) (M:Nat→Nat→Int):Prop where
 g0:g≠0
 g:ae ai g=some rs
 n:rs.length=N
 r:∀s,s<N→ae ah (rs.getD s 0)=some (y7 w (M s))
 i:0<w→∀s t,s<N→t<N→rs.getD s 0=rs.getD t 0→s=t
 z:0<w→∀s,s<N→rs.getD s 0≠0
def S8 (r P t:Nat):Nat:=if t=r then P else if t=P then r else t
section
variable {ah:HW}{ai:HN}{g N w:Nat}{rs:List Nat}{M:Nat→Nat→Int}
theorem GM.congr {M':Nat→Nat→Int}(h:GM ah ai g N w rs M)(e:∀s q,s<N→q<w→M' s q=M s q):GM ah ai g N w rs M':=
 ⟨h.g0,h.g,h.n,fun s hs=>by rw[CS fun q hq=>e s q hs hq];exact h.r s hs,h.i,h.z⟩
theorem GM.kt (h:GM ah ai g N w rs M){i:Nat}(hi:i<N)(hw:0<w)(f:Nat→Int):GM (gF ah (rs.getD i 0) (y7 w f)) ai g N w rs (fun s=>if s=i then f else M s):=by
 refine⟨h.g0,h.g,h.n,fun s hs=> ?_,h.i,h.z⟩;by_cases e:s=i
 ·subst e;simp only[if_true];exact A5 (h.r s hs) (h.z hw s hs)
 ·simp only[if_neg e];exact Mt (h.r s hs) fun q=>e (h.i hw s i hs hi q)
theorem Rn {r P t:Nat}:S8 r P (S8 r P t)=t:=by
 unfold S8;by_cases h1:t=r
 ·rw[if_pos h1];by_cases h2:P=r
  ·rw[if_pos h2];omega
  ·rw[if_neg h2,if_pos rfl];omega
 ·rw[if_neg h1];by_cases h2:t=P
  ·rw[if_pos h2,if_pos rfl];omega
  ·rw[if_neg h2,if_neg h1,if_neg h2]
theorem S9 {a b:Nat}(ha:a<rs.length)(hb:b<rs.length){s:Nat}:((rs.set a (rs.getD b 0)).set b (rs.getD a 0)).getD s 0=rs.getD (S8 a b s) 0:=by
 rw[m7,m7,List.length_set];unfold S8;by_cases h1:s=a
 ·by_cases h2:b=s
  ·rw[if_pos ⟨h2,hb⟩,if_pos h1];rw[show a=b by omega]
  ·rw[if_neg (fun q=>h2 q.1),if_pos ⟨h1.symm,ha⟩,if_pos h1]
 ·by_cases h2:b=s
  ·rw[if_pos ⟨h2,hb⟩,if_neg h1,if_pos h2.symm]
  ·rw[if_neg (fun q=>h2 q.1),if_neg (fun q=>h1 q.1.symm),if_neg h1,if_neg (fun q=>h2 q.symm)]
theorem GM.swap (h:GM ah ai g N w rs M){a b:Nat}(ha:a<N)(hb:b<N):
  GM ah (gF ai g ((rs.set a (rs.getD b 0)).set b (rs.getD a 0))) g N w ((rs.set a (rs.getD b 0)).set b (rs.getD a 0)) (fun s=>M (S8 a b s)):=by
 have hn:=h.n;have hs':∀s,s<N→S8 a b s<N:=fun s hs=>by unfold S8;split<;>(try split)<;>omega
 have e:∀s,((rs.set a (rs.getD b 0)).set b (rs.getD a 0)).getD s 0=rs.getD (S8 a b s) 0:=fun s=>S9 (by omega) (by omega);refine⟨h.g0,A5 h.g h.g0,by simp[hn],fun s hs=>by rw[e];exact h.r _ (hs' s hs),fun hw s t hs ht q=> ?_,fun hw s hs=>by rw[e];exact h.z hw _ (hs' s hs)⟩;rw[e,e] at q;have:=h.i hw _ _ (hs' s hs) (hs' t ht) q;have e2:=congrArg (S8 a b) this;rw[Rn,Rn] at e2;exact e2
theorem Ro (h:GM ah ai g N w rs M)(h0:N=0→w=0):ar g ah ai=some ((w:Int),(ah,ai)):=by
 have hn:=h.n;rw[wL,sd,h.g];simp only[bS];by_cases e:N=0
 ·rw[yP (by omega),h0 e];rfl
 ·rw[xv (by omega),ac5 0 (by omega),h.r 0 (by omega),bS,dC]
theorem OB (h:GM ah ai g N w rs M){a b:Nat}(ha:a<N)(hb:b<N):
  ∃gQ rs',aL g a b ah ai=some ((),(ah,gQ))∧GM ah gQ g N w rs' (fun s=>M (S8 a b s)):=by
 have hn:=h.n;refine⟨_,_, ?_,h.swap ha hb⟩;have hg:∀l,ae (gF ai g l) g=some l:=fun l=>A5 h.g h.g0;rw[rM,nE,h.g];simp only[bS,S6,hg];rw[vA 0 (by omega),vA 0 (by omega),vA 0 (by omega),Int.toNat_natCast,Int.toNat_natCast,gJ 0 (by simp;omega),aa1 0 (by simp;omega)]
theorem U6 {i:Nat}(hi:i<N)(hw:0<w)(Rp:w≤1000000){f:Nat→Int}(hs:∀q,q<w→Ln (f q)≤100000000000):∀(d j:Nat) (ah:HW),d+j=w→GM ah ai g N w rs (fun s=>if s=i then (fun q=>if q<j then - f q else f q) else M s)→
  ∃df,cZ g i (rs.getD i 0) w j ah ai=some ((),(df,ai))∧GM df ai g N w rs (fun s=>if s=i then (fun q=> - f q) else M s):=by
 intro d;induction d with
 |zero=>
  intro j ah hd h;obtain rfl:j=w:=by omega
  refine⟨ah,by rw[lg,je,aY (by omega)],h.congr fun s q hs hq=> ?_⟩;by_cases e:s=i
  ·simp only[if_pos e,if_pos hq]
  ·simp only[if_neg e]
 |succ d ih=>
  intro j ah hd h;have hj:j<w:=by omega
  have hn:=h.n;have e1:=h.r i hi;simp only[if_true] at e1;have hu:=h.kt hi hw (fun q=>if q<j+1 then - f q else f q);obtain⟨df,g1,g2⟩:=ih (j+1) _ (by omega) (hu.congr fun s q hs hq=>by
   by_cases e:s=i
   ·simp only[if_pos e]
   ·simp only[if_neg e])
  refine⟨df, ?_,g2⟩;rw[←g1,lg,je,aO (by omega),e1];simp only[bS];rw[vA wz (by rw[dC];exact hj),fF hj,h.g];simp only[bS];rw[vA 0 (by omega),s7,if_neg (by omega),m6 (hs j hj),bS,e1];simp only[bS];rw[vA wz (by rw[dC];exact hj),s7,Int.toNat_natCast,OA,m8 (by omega)]
  congr 2
  refine CS fun q hq=> ?_;by_cases e:q=j
  ·subst e;simp only[if_true];rw[if_pos (by omega)]
  ·simp only[if_neg e];by_cases e2:q<j
   ·rw[if_pos e2,if_pos (by omega)]
   ·rw[if_neg e2,if_neg (by omega)]
theorem Ta (h:GM ah ai g N w rs M){i:Nat}(hi:i<N)(hw:0<w)(Rp:w≤1000000)(hs:∀q,q<w→Ln (M i q)≤100000000000):
  ∃df,dE g i ah ai=some ((),(df,ai))∧GM df ai g N w rs (fun s=>if s=i then (fun q=> - M i q) else M s):=by
 have hn:=h.n;have e0:((0:Nat):Int)=0:=rfl;obtain⟨df,g1,g2⟩:=U6 (M:=M) (f:=M i) hi hw Rp hs w 0 ah (by omega) (h.congr fun s q hs hq=>by
  by_cases e:s=i
  ·subst e;simp
  ·simp only[if_neg e])
 refine⟨df, ?_,g2⟩;rw[e0] at g1;rw[tG,pe,h.g];simp only[bS];rw[vA 0 (by omega),h.r i hi,bS,dC,g1]
theorem U7 {i j:Nat}(hi:i<N)(hj:j<N)(hij:i≠j)(hw:0<w)(Rp:w≤1000000){f:Nat→Int}{k:Int}(hk:Ln k≤10000000000)(hs:∀q,q<w→Ln (f q)≤10000000000∧Ln (M j q)≤10000000000):∀(d c:Nat) (ah:HW),d+c=w→GM ah ai g N w rs (fun s=>if s=i then (fun q=>if q<c then f q+M j q*k else f q) else M s)→
  ∃df,c0 g i (rs.getD j 0) w c (W k).1 (W k).2.1 ah ai=some ((),(df,ai))∧GM df ai g N w rs (fun s=>if s=i then (fun q=>f q+M j q*k) else M s):=by
 intro d;induction d with
 |zero=>
  intro c ah hd h;obtain rfl:c=w:=by omega
  refine⟨ah,by rw[lh,jf,aY (by omega)],h.congr fun s q hs hq=> ?_⟩;by_cases e:s=i
  ·simp only[if_pos e,if_pos hq]
  ·simp only[if_neg e]
 |succ d ih=>
  intro c ah hd h;have hc:c<w:=by omega
  have hn:=h.n;have e1:=h.r i hi;simp only[if_true] at e1;have e2:=h.r j hj;simp only[if_neg (Ne.symm hij)] at e2;have hu:=h.kt hi hw (fun q=>if q<c+1 then f q+M j q*k else f q);obtain⟨df,g1,g2⟩:=ih (c+1) _ (by omega) (hu.congr fun s q hs hq=>by
   by_cases e:s=i
   ·simp only[if_pos e]
   ·simp only[if_neg e])
  refine⟨df, ?_,g2⟩;have l1:=Y0 (M j c) k;have l2:=hs c hc;rw[←g1,lh,jf,aO (by omega),e2];simp only[bS];rw[vA wz (by rw[dC];exact hc),fF hc,h.g];simp only[bS];rw[vA 0 (by omega),vA 0 (by omega),e1];simp only[bS];rw[vA wz (by rw[dC];exact hc),fF hc,s7,s7,s7,if_neg (by omega),Fs (by omega) (by omega),bS,s7,m5 (by omega) (by omega),bS];rw[vA wz (by rw[dC];exact hc),s7,Int.toNat_natCast,OA,m8 (by omega)]
  congr 2
  refine CS fun q hq=> ?_;by_cases e:q=c
  ·subst e;simp only[if_true];rw[if_pos (by omega)]
  ·simp only[if_neg e];by_cases e2:q<c
   ·rw[if_pos e2,if_pos (by omega)]
   ·rw[if_neg e2,if_neg (by omega)]
theorem KT (h:GM ah ai g N w rs M){i j:Nat}(hi:i<N)(hj:j<N)(hij:i≠j)(hw:0<w)(Rp:w≤1000000){k:Int}(hk:Ln k≤10000000000)(hs:∀q,q<w→Ln (M i q)≤10000000000∧Ln (M j q)≤10000000000):
  ∃df,ca g i j (W k) ah ai=some ((),(df,ai))∧GM df ai g N w rs (fun s=>if s=i then (fun q=>M i q+M j q*k) else M s):=by
 have hn:=h.n;have e0:((0:Nat):Int)=0:=rfl;obtain⟨df,g1,g2⟩:=U7 (M:=M) (f:=M i) hi hj hij hw Rp hk hs w 0 ah (by omega) (h.congr fun s q hs hq=>by
  by_cases e:s=i
  ·subst e;simp
  ·simp only[if_neg e])
 refine⟨df, ?_,g2⟩;rw[e0] at g1;rw[tH,pf,h.g];simp only[bS];rw[vA 0 (by omega),h.r j hj,bS,dC,g1]
end
end Go.Proofs.Ytcopbdamkjladaa.Ev
namespace Go.Abs
def Gp (g:Nat→Int):Nat→Int
 |0=>0
 |n+1=>Gp g n+g n
theorem KU {g h:Nat→Int}:∀{n:Nat},(∀i,i<n→g i=h i)→Gp g n=Gp h n
 |0,_=>rfl
 |n+1,e=>by rw[Gp,Gp,KU fun i hi=>e i (by omega),e n (by omega)]
theorem Ef {g:Nat→Int}:∀{n:Nat},(∀i,i<n→g i=0)→Gp g n=0
 |0,_=>rfl
 |n+1,e=>by rw[Gp,Ef fun i hi=>e i (by omega),e n (by omega)];rfl
theorem Rq (g h:Nat→Int):∀n:Nat,Gp (fun i=>g i+h i) n=Gp g n+Gp h n
 |0=>rfl
 |n+1=>by rw[Gp,Gp,Gp,Rq g h n];omega
theorem Rr (c:Int)(g:Nat→Int):∀n:Nat,Gp (fun i=>c*g i) n=c*Gp g n
 |0=>by simp[Gp]
 |n+1=>by rw[Gp,Gp,Rr c g n,Int.mul_add]
theorem Hj {g:Nat→Int}{a:Nat}:∀{n:Nat},a<n→(∀i,i<n→i≠a→g i=0)→Gp g n=g a
 |0,h,_=>by omega
 |n+1,h,e=>by
  rw[Gp];by_cases ha:a=n
  ·subst ha;rw[Ef fun i hi=>e i (by omega) (by omega)];omega
  ·rw[Hj (a:=a) (by omega) fun i hi hn=>e i (by omega) hn,e n (by omega) (by omega)];omega
def jD (w b:Nat)(V:Nat→Nat→Int)(x:Nat→Int):Prop:=∃c:Nat→Int,∀q,q<w→x q=Gp (fun k=>c k*V k q) b
section
variable {w b a:Nat}{V U:Nat→Nat→Int}{x y:Nat→Int}
theorem jD.congr (h:jD w b V x)(e:∀q,q<w→y q=x q):jD w b V y:=by obtain⟨c,h⟩:=h;exact⟨c,fun q hq=>by rw[e q hq,h q hq]⟩
theorem jD.zero (h:∀q,q<w→x q=0):jD w b V x:=⟨fun _=>0,fun q hq=>by
 have:Gp (fun k=>0*V k q) b=0:=Ef fun i _=>Int.zero_mul _;rw[this];exact h q hq⟩
theorem jD.gen {k:Nat}(hk:k<b):jD w b V (V k):=⟨fun l=>if l=k then 1 else 0,fun q hq=>by
 rw[Hj (g:=fun l=>(if l=k then 1 else 0)*V l q) (a:=k) hk fun i hi hne=>by rw[if_neg hne,Int.zero_mul],if_pos rfl,Int.one_mul]⟩
theorem jD.add (u:Int)(hx:jD w b V x)(hy:jD w b V y):jD w b V (fun q=>x q+u*y q):=by
 obtain⟨c,h⟩:=hx;obtain⟨d,g⟩:=hy;refine⟨fun k=>c k+u*d k,fun q hq=> ?_⟩;have e:Gp (fun k=>(c k+u*d k)*V k q) b=Gp (fun k=>c k*V k q) b+u*Gp (fun k=>d k*V k q) b:=by rw[←Rr, ←Rq];exact KU fun l _=>by grind
 simp only;rw[e,h q hq,g q hq]
theorem jD.smul (u:Int)(hy:jD w b V y):jD w b V (fun q=>u*y q):=((jD.zero (x:=fun _=>0) fun _ _=>rfl).add u hy).congr fun q _=>(Int.zero_add _).symm
theorem jD.sum (c:Nat→Int):∀{b:Nat},(∀k,k<b→jD w a U (V k))→jD w a U (fun q=>Gp (fun k=>c k*V k q) b)
 |0,_=>jD.zero fun q _=>rfl
 |b+1,h=>(jD.sum c fun k hk=>h k (by omega)).add (c b) (h b (by omega))
theorem jD.trans (h:∀k,k<b→jD w a U (V k))(hx:jD w b V x):jD w a U x:=by obtain⟨c,g⟩:=hx;exact(jD.sum c h).congr g
end
structure Tc (w N:Nat) (H:Nat→Nat→Int) (r:Nat) (pos:Nat→Nat):Prop where
 le:r≤N
 pw:∀s,s<r→pos s<w
 mono:∀s t,s<t→t<r→pos s<pos t
 lead:∀s,s<r→0<H s (pos s)
 Rs:∀s,s<r→∀q,q<pos s→H s q=0
 red:∀s t,s<t→t<r→0≤H s (pos t)∧H s (pos t)<H t (pos t)
 zer:∀s,r≤s→s<N→∀q,q<w→H s q=0
section
variable {w N N' r r':Nat}{H H':Nat→Nat→Int}{pos pos':Nat→Nat}
theorem Tc.Jf (h:Tc w N H r pos){x:Nat→Int}(hx:jD w N H x){c:Nat}(hc:c<w)(hz:∀q,q<c→x q=0):(∃s,s<r∧pos s=c∧H s c ∣ x c)∨((∀s,s<r→pos s≠c)∧x c=0):=by
 obtain⟨a,ha⟩:=hx;have hle:=h.le;have key:∀k,k<r→pos k<c→a k=0:=by
  intro k;induction k using Nat.strongRecOn with
  |ind k ih=>
   intro hk hp;have h1:=ha (pos k) (h.pw k hk);rw[hz _ hp,Hj (a:=k) (by omega) fun l hl hne=> ?_] at h1
   ·rcases Int.mul_eq_zero.1 h1.symm with e |e
    ·exact e
    ·have:=h.lead k hk;omega
   ·rcases Nat.lt_or_ge l r with g |g
    ·rcases Nat.lt_or_ge l k with g2 |g2
     ·rw[ih l g2 g (by have:=h.mono l k g2 hk;omega),Int.zero_mul]
     ·rw[h.Rs l g _ (h.mono k l (by omega) g),Int.mul_zero]
    ·rw[h.zer l g hl _ (h.pw k hk),Int.mul_zero]
 have Yj:=ha c hc;have out:∀l,l<N→(∀s,s<r→pos s=c→l≠s)→a l*H l c=0:=fun l hl hne=>by
  rcases Nat.lt_or_ge l r with g |g
  ·rcases Nat.lt_trichotomy (pos l) c with e |e |e
   ·rw[key l g e,Int.zero_mul]
   ·exact absurd rfl (hne l g e)
   ·rw[h.Rs l g c e,Int.mul_zero]
  ·rw[h.zer l g hl c hc,Int.mul_zero]
 by_cases g:∃s,s<r∧pos s=c
 ·obtain⟨s,hs,e⟩:=g;left;refine⟨s,hs,e,a s, ?_⟩;rw[Yj,Hj (a:=s) (by omega) fun l hl hne=>out l hl fun t ht e2=> ?_]
  ·exact Int.mul_comm _ _
  ·have:t=s:=by
    rcases Nat.lt_trichotomy t s with q |q |q
    ·have:=h.mono t s q hs;omega
    ·exact q
    ·have:=h.mono s t q ht;omega
   rw[this];exact hne
 ·right;refine⟨fun s hs e=>g ⟨s,hs,e⟩, ?_⟩;rw[Yj,Ef fun l hl=>out l hl fun s hs e=>absurd ⟨s,hs,e⟩ g]
theorem Tc.pos_eq (h:Tc w N H r pos)(h':Tc w N' H' r' pos')(h1:∀s,s<N→jD w N' H' (H s))(h2:∀s,s<N'→jD w N H (H' s)):∀s,s<r→s<r'∧pos s=pos' s∧H' s (pos s) ∣ H s (pos s):=by
 have hle:=h.le;have hle':=h'.le;intro s;induction s using Nat.strongRecOn with
 |ind s ih=>
  intro hs;rcases h'.Jf (h1 s (by omega)) (h.pw s hs) (h.Rs s hs) with ⟨t,ht,e,hd⟩ | ⟨_,e⟩
  ·have:t=s:=by
    rcases Nat.lt_trichotomy t s with q |q |q
    ·have g:=(ih t q (by omega)).2.1;have:=h.mono t s q hs;omega
    ·exact q
    ·exfalso;have m1:=h'.mono s t q ht;rcases h.Jf (h2 s (by omega)) (h'.pw s (by omega)) (h'.Rs s (by omega)) with ⟨u,hu,e3,_⟩ | ⟨_,e3⟩
     ·have:u<s:=by
       rcases Nat.lt_or_ge u s with g |g
       ·exact g
       ·rcases Nat.eq_or_lt_of_le g with g |g
        ·subst g;omega
        ·have:=h.mono s u g hu;omega
      have g:=(ih u this hu).2.1;have:=h'.mono u s this (by omega);omega
     ·have:=h'.lead s (by omega);omega
   subst this;exact⟨ht,e.symm,hd⟩
  ·have:=h.lead s hs;omega
theorem Tc.uniq (h:Tc w N H r pos)(h':Tc w N' H' r' pos')(h1:∀s,s<N→jD w N' H' (H s))(h2:∀s,s<N'→jD w N H (H' s)):r=r'∧∀s,s<r→∀q,q<w→H s q=H' s q:=by
 have p1:=h.pos_eq h' h1 h2;have p2:=h'.pos_eq h h2 h1;have hr:r=r':=by
  rcases Nat.lt_trichotomy r r' with g |g |g
  ·have:=(p2 r g).1;omega
  ·exact g
  ·have:=(p1 r' g).1;omega
 have hle:=h.le;have hle':=h'.le;have pv:∀s,s<r→H s (pos s)=H' s (pos s):=fun s hs=>by obtain⟨_,e,d1⟩:=p1 s hs;obtain⟨_,_,d2⟩:=p2 s (by omega);rw[←e] at d2;have l1:=h.lead s hs;have l2:=h'.lead s (by omega);rw[←e] at l2;exact Int.le_antisymm (Int.le_of_dvd l2 d2) (Int.le_of_dvd l1 d1)
 refine⟨hr,fun s hs q hq=> ?_⟩;have hx:jD w N H (fun q=>H s q+ -1*H' s q):=(jD.gen (V:=H) (show s<N by omega)).add (-1) (h2 s (by omega));have e0:=(p1 s hs).2.1;have key:∀q,q<w→H s q+ -1*H' s q=0:=by
  intro q;induction q using Nat.strongRecOn with
  |ind q ih=>
   intro hq;rcases Nat.lt_trichotomy q (pos s) with g |g |g
   ·rw[h.Rs s hs q g,h'.Rs s (by omega) q (by omega)];rfl
   ·rw[g,pv s hs];omega
   ·rcases h.Jf hx hq (fun t ht=>ih t ht (by omega)) with ⟨t,ht,e,hd⟩ | ⟨_,e⟩
    ·have hst:s<t:=by
      rcases Nat.lt_or_ge s t with u |u
      ·exact u
      ·rcases Nat.eq_or_lt_of_le u with u |u
       ·subst u;omega
       ·have:=h.mono t s u hs;omega
     have r1:=h.red s t hst ht;have r2:=h'.red s t hst (by omega);have e1:=(p1 t ht).2.1;rw[←e1, ←pv t ht] at r2;rw[e] at r1 r2;obtain⟨k,hk⟩:=hd;have lt:=h.lead t ht;rw[e] at lt;by_cases PL:k=0
     ·rw[hk,PL,Int.mul_zero]
     ·exfalso;rcases Int.lt_or_gt_of_ne PL with u |u
      ·have:H t q*k≤H t q* -1:=Int.mul_le_mul_of_nonneg_left (by omega) (by omega);omega
      ·have:H t q*1≤H t q*k:=Int.mul_le_mul_of_nonneg_left (by omega) (by omega);omega
    ·exact e
 have:=key q hq;omega
end
def xz (w N N':Nat)(M M':Nat→Nat→Int):Prop:=(∀s,s<N→jD w N' M' (M s))∧(∀s,s<N'→jD w N M (M' s))
section
variable {w N N' N'':Nat}{M M' M'':Nat→Nat→Int}
theorem xz.refl:xz w N N M M:=⟨fun s hs=>jD.gen hs,fun s hs=>jD.gen hs⟩
theorem xz.symm (h:xz w N N' M M'):xz w N' N M' M:=⟨h.2,h.1⟩
theorem xz.trans (h:xz w N N' M M')(g:xz w N' N'' M' M''):xz w N N'' M M'':=⟨fun s hs=>jD.trans g.1 (h.1 s hs),fun s hs=>jD.trans h.2 (g.2 s hs)⟩
theorem xz.of_eq (e:∀s q,s<N→q<w→M' s q=M s q):xz w N N M M':=⟨fun s hs=>(jD.gen (V:=M') hs).congr fun q hq=>(e s q hs hq).symm,fun s hs=>(jD.gen (V:=M) hs).congr fun q hq=>e s q hs hq⟩
theorem xz.XW {r P:Nat}(hr:r<N)(hP:P<N){y8:Nat→Int}(hk:y8 r=0)(hM:∀i,i<N→∀q,q<w→M' i q=M (if i=r then P else if i=P then r else i) q+y8 i*M P q):xz w N N M M':=by
 have w1:∀t,t<N→(if t=r then P else if t=P then r else t)<N:=fun t ht=>by split<;>(try split)<;>omega
 have w2:∀t,(if (if t=r then P else if t=P then r else t)=r then P else if (if t=r then P else if t=P then r else t)=P then r else (if t=r then P else if t=P then r else t))=t:=fun t=>by
  by_cases h1:t=r
  ·rw[if_pos h1];by_cases h2:P=r
   ·rw[if_pos h2];omega
   ·rw[if_neg h2,if_pos rfl];omega
  ·rw[if_neg h1];by_cases h2:t=P
   ·rw[if_pos h2,if_pos rfl];omega
   ·rw[if_neg h2,if_neg h1,if_neg h2]
 have hr':∀q,q<w→M' r q=M P q:=fun q hq=>by rw[hM r hr q hq,hk,if_pos rfl,Int.zero_mul,Int.add_zero]
 refine⟨fun t ht=> ?_,fun s hs=> ?_⟩
 ·refine((jD.gen (V:=M') (w1 t ht)).add (- y8 (if t=r then P else if t=P then r else t)) (jD.gen (V:=M') hr)).congr fun q hq=> ?_;rw[hM _ (w1 t ht) q hq,w2,hr' q hq];generalize y8 (if t=r then P else if t=P then r else t)=K;rw[Int.neg_mul];omega
 ·exact((jD.gen (V:=M) (w1 s hs)).add (y8 s) (jD.gen (V:=M) hP)).congr (hM s hs)
theorem xz.neg {r:Nat}(hM:∀i,i<N→∀q,q<w→M' i q=if i=r then - M i q else M i q):xz w N N M M':=by
 refine⟨fun t ht=> ?_,fun t ht=> ?_⟩
 ·by_cases e:t=r
  ·refine(jD.smul (-1) (jD.gen (V:=M') ht)).congr fun q hq=> ?_;rw[hM t ht q hq,if_pos e];omega
  ·refine(jD.gen (V:=M') ht).congr fun q hq=> ?_;rw[hM t ht q hq,if_neg e]
 ·by_cases e:t=r
  ·refine(jD.smul (-1) (jD.gen (V:=M) ht)).congr fun q hq=> ?_;rw[hM t ht q hq,if_pos e];omega
  ·refine(jD.gen (V:=M) ht).congr fun q hq=> ?_;rw[hM t ht q hq,if_neg e]
end
structure HI (w N r c:Nat) (m M:Nat→Nat→Int) (pos:Nat→Nat):Prop where
 le:r≤N
 cl:c≤w
 q:xz w N N m M
 pc:∀s,s<r→pos s<c
 mono:∀s t,s<t→t<r→pos s<pos t
 lead:∀s,s<r→0<M s (pos s)
 Rs:∀s,s<r→∀q,q<pos s→M s q=0
 red:∀s t,s<t→t<r→0≤M s (pos t)∧M s (pos t)<M t (pos t)
 z:∀t,r≤t→t<N→∀q,q<c→M t q=0
section
variable {w N r c:Nat}{m M M1 M':Nat→Nat→Int}{pos:Nat→Nat}
theorem HI.zero:HI w N 0 0 m m pos:=⟨by omega,by omega,xz.refl,fun s hs=>by omega,fun s t _ h=>by omega,fun s h=>by omega,fun s h=>by omega,fun s t _ h=>by omega,fun t _ _ q h=>by omega⟩
theorem HI.fin (h:HI w N r w m M pos):Tc w N M r pos:=⟨h.le,h.pc,h.mono,h.lead,h.Rs,h.red,h.z⟩
theorem HI.skip (h:HI w N r c m M pos)(hc:c<w)(hz:∀t,r≤t→t<N→M t c=0):HI w N r (c+1) m M pos:=
 ⟨h.le,hc,h.q,fun s hs=>by have:=h.pc s hs;omega,h.mono,h.lead,h.Rs,h.red,fun t h1 h2 q hq=>by
   by_cases e:q=c
   ·subst e;exact hz t h1 h2
   ·exact h.z t h1 h2 q (by omega)⟩
theorem HI.step (h:HI w N r c m M pos)(hc:c<w)(hr:r<N)(hq:xz w N N M M1)(h1:∀s,s<r→∀q,q<w→M1 s q=M s q)(h2:∀t,r≤t→t<N→∀q,q<c→M1 t q=0)(h3:0<M1 r c)(h4:∀t,r<t→t<N→M1 t c=0)
  {y8:Nat→Int} (h5:∀s,s<r→∀q,q<w→M' s q=M1 s q+y8 s*M1 r q) (h6:∀s,s<r→0≤M' s c∧M' s c<M1 r c) (h7:∀t,r≤t→t<N→∀q,q<w→M' t q=M1 t q):HI w N (r+1) (c+1) m M' (fun s=>if s=r then c else pos s):=by
 have old:∀s,s<r→∀q,q<c→M' s q=M s q:=fun s hs q hqc=>by rw[h5 s hs q (by omega),h2 r (Nat.le_refl r) hr q hqc,Int.mul_zero,Int.add_zero,h1 s hs q (by omega)]
 have hq2:xz w N N M1 M':=xz.XW (P:=r) hr hr (y8:=fun i=>if i<r then y8 i else 0) (if_neg (by omega)) fun i hi q hqw=>by
  have e:(if i=r then r else if i=r then r else i)=i:=by split<;>omega
  rw[e];by_cases g:i<r
  ·simp only[if_pos g];exact h5 i g q hqw
  ·simp only[if_neg g];rw[Int.zero_mul,Int.add_zero];exact h7 i (by omega) hi q hqw
 refine⟨hr,hc,(h.q.trans hq).trans hq2,fun s hs=> ?_,fun s t hst ht=> ?_,fun s hs=> ?_,fun s hs q W6=> ?_,fun s t hst ht=> ?_,fun t h8 h9 q hqc=> ?_⟩
 ·by_cases e:s=r
  ·simp only[if_pos e];omega
  ·simp only[if_neg e];have:=h.pc s (by omega);omega
 ·simp only[if_neg (show s≠r by omega)];by_cases e:t=r
  ·simp only[if_pos e];exact h.pc s (by omega)
  ·simp only[if_neg e];exact h.mono s t hst (by omega)
 ·by_cases e:s=r
  ·subst e;simp only[if_true];rw[h7 s (Nat.le_refl s) hr c hc];exact h3
  ·simp only[if_neg e];rw[old s (by omega) _ (h.pc s (by omega))];exact h.lead s (by omega)
 ·by_cases e:s=r
  ·subst e;simp only[if_true] at W6;rw[h7 s (Nat.le_refl s) hr q (by omega)];exact h2 s (Nat.le_refl s) hr q W6
  ·simp only[if_neg e] at W6;have:=h.pc s (by omega);rw[old s (by omega) q (by omega)];exact h.Rs s (by omega) q W6
 ·by_cases e:t=r
  ·subst e;simp only[if_true];rw[h7 t (Nat.le_refl t) hr c hc];exact h6 s (by omega)
  ·simp only[if_neg e];rw[old s (by omega) _ (h.pc t (by omega)),old t (by omega) _ (h.pc t (by omega))];exact h.red s t hst (by omega)
 ·rw[h7 t (by omega) h9 q (by omega)];by_cases e:q=c
  ·subst e;exact h4 t (by omega) h9
  ·exact h2 t (by omega) h9 q (by omega)
end
end Go.Abs
