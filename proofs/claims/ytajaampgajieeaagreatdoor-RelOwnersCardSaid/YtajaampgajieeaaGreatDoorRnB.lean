/- Proved here: that the law's examples hold. Conditions: each theorem's own. -/
import Derived.Test.YtajaampgajieeaaGreatDoorEnvT
set_option linter.unusedSimpArgs false
set_option maxHeartbeats 16000000
set_option maxRecDepth 1000000
set_option linter.unusedVariables false
set_option linter.unusedSectionVars false
namespace Go.Proofs.YtajaampgajieeaaGreatDoor
open Go.Ab
def jyK:List Nat:=[46,23,75,177,154,155,225,226,217,166,134,264,20,241,122,143,133,234,208,257,238,284,270,316,317,296,297,298,341,325,14,15,98,72,76,73,19,74,17,96,171,172,167,168,169,170,242,243,244,246,247,251,252,253,274,275,276,277,279,280,281,283,299,300,301,302,308,313,315,326,328,64,55,47,41,37,43,45,136,137,138,58,60,152,115,120,118,195,236,105,97,26,126,116,204,36,40,49,52,112,117,185,186,187,188,189,190,230,135,210,209,109,110,111,184,31]
noncomputable def envS:Env:={ P:=Tryz.prog,pure:=λf=>memN f jyK,mutb:=λf _=>memN f [157,252,278,279,310,311,312,237,128,130,69,182,183,194],gl:=glV,hook:=F.hookF,rowB:=true }
theorem jiE:envS.Ok:={ mixed:=F.env_ok.mixed,glc:=F.env_ok.glc,hook:=F.env_ok.hook }
end Go.Proofs.YtajaampgajieeaaGreatDoor
namespace Go.Proofs.YtajaampgajieeaaGreatDoor.r64
open Go.Ab
def a0:V:=(.row [(.int .i64 2),(.int .i64 0),(asciiV "age"),(.int .i64 1),(.int .i64 30),(asciiV ""),(.int .i64 13),(.int .i64 0),(asciiV "")] 3 .full)
def a1:V:=(.row [(asciiV "age"),(.int .i64 0),(.int .i64 120),.nilsl,(asciiV "colour"),(.int .i64 0),(.int .i64 1),(.row [(asciiV "red"),(asciiV "green")] 2 .unk)] 2 .unk)
def a2:V:=(.row [(asciiV "place"),(.int .i64 0),(.int .i64 9),.nilsl,(asciiV "colour"),(.int .i64 0),(.int .i64 1),(.row [(asciiV "red"),(asciiV "green")] 2 .unk)] 2 .unk)
def a3:V:=(.row [(.int .i64 0),(.row [(.int .i64 5),(.int .i64 1)] 2 .unk),(.int .i64 0),(.row [(.int .i64 6),(.int .i64 1)] 2 .unk),(.int .i64 0),(.row [(.int .i64 7),(.int .i64 0)] 2 .unk)] 3 .unk)
def a4:V:=(.row [(.int .i64 1),(.row [(.int .i64 30),(.int .i64 0)] 2 .unk),(.int .i64 2),(.row [(.int .i64 31),(.int .i64 1)] 2 .unk),(.int .i64 1),(.row [(.int .i64 32),(.int .i64 1)] 2 .unk)] 3 .unk)
def a5:V:=(.agg [(.int .i64 1),.nilsl,(.int .i64 0),(.int .i64 0),(.int .i64 0),(.int .i64 0),(asciiV ""),(.int .i64 0),.nilsl,(.int .i64 0),(.bool false),(asciiV "people"),(.int .i64 1),(asciiV ""),(asciiV ""),(asciiV ""),(.int .i64 0),.nilsl,(asciiV "2"),(.int .i64 8)])
def a6:V:=(.agg [(.int .i64 3),.nilsl,(.int .i64 0),(.int .i64 0),(.int .i64 0),(.int .i64 0),(asciiV "colour"),(.int .i64 0),.nilsl,(.int .i64 0),(.bool false),(asciiV "people"),(.int .i64 0),(asciiV ""),(asciiV ""),(asciiV ""),(.int .i64 0),.nilsl,(asciiV "2"),(.int .i64 8)])
def a7:V:=(.agg [(.int .i64 1),.nilsl,(.int .i64 0),(.int .i64 0),(.int .i64 0),(.int .i64 0),(asciiV ""),(.int .i64 0),.nilsl,(.int .i64 0),(.bool false),(asciiV "people"),(.int .i64 0),(asciiV "people"),(asciiV "colour"),(asciiV "colour"),(.int .i64 2),.nilsl,(asciiV "2"),(.int .i64 8)])
def a8:V:=(.row [(asciiV "age"),(.int .i64 0),(.int .i64 120),.nilsl,(asciiV "colour"),(.int .i64 0),(.int .i64 1),(.row [(asciiV "red"),(asciiV "green")] 2 .unk),(asciiV "place"),(.int .i64 0),(.int .i64 9),.nilsl,(asciiV "colour"),(.int .i64 0),(.int .i64 1),(.row [(asciiV "red"),(asciiV "green")] 2 .unk)] 4 .unk)
def a9:V:=(.agg [(.int .i64 4),(.row [(.int .i64 2),(.int .i64 0),(asciiV "age")] 1 .full),(.int .i64 0),(.int .i64 31),(.int .i64 0),(.int .i64 0),(asciiV "colour"),(.int .i64 0),.nilsl,(.int .i64 0),(.bool false),(asciiV "people"),(.int .i64 0),(asciiV ""),(asciiV ""),(asciiV ""),(.int .i64 0),.nilsl,(asciiV "2"),(.int .i64 8)])
def a10:V:=(.row [(asciiV "people"),(.bool false),(.int .i64 3),a1,(asciiV "places"),(.bool true),(.int .i64 0),a2] 2 .unk)
def a11:V:=(.agg [(.int .i64 2),(.row [(.int .i64 2),(.int .i64 0),(asciiV "place")] 1 .full),(.int .i64 0),(.int .i64 5),(.int .i64 0),(.int .i64 0),(asciiV ""),(.int .i64 0),.nilsl,(.int .i64 0),(.bool false),(asciiV "people"),(.int .i64 0),(asciiV "places"),(asciiV "colour"),(asciiV "colour"),(.int .i64 1),a0,(asciiV "2"),(.int .i64 8)])
def a12:V:=(.row [(asciiV "people"),(.bool false),(.int .i64 3),a1,a4,(asciiV "places"),(.bool true),(.int .i64 0),a2,a3] 2 .unk)
def t0:RTab:=[(115,[a12],a10),
 (257,[(asciiV "people")],(.bool true)),
 (257,[(asciiV "age")],(.bool true)),
 (257,[(asciiV "colour")],(.bool true)),
 (257,[(asciiV "red")],(.bool true)),
 (257,[(asciiV "green")],(.bool true)),
 (257,[(asciiV "places")],(.bool true)),
 (257,[(asciiV "place")],(.bool true)),
 (169,[(asciiV "2")],(.int .i64 0)),
 (170,[(asciiV "2"),(asciiV "1")],(.tup [(.int .i64 1),(.int .i64 0)])),
 (170,[(asciiV "2"),(asciiV "1000000")],(.tup [(.int .i64 (-1)),(.int .i64 0)])),
 (115,[.nilsl],.nilsl),
 (96,[.nilsl],(.tup [(.int .i64 0),(.int .i64 (-1)),(.int .i64 (-1))]))]
theorem jyL:∀p∈t0,jdm envS p.1 p.2.1 p.2.2:=je7 jiE (S0:=[]) jtu (k:=1000) ac
def s0:RTab:=t0
theorem jv9:∀p∈s0,jdm envS p.1 p.2.1 p.2.2:=jyL
def t1:RTab:=[(96,[a10],(.tup [(.int .i64 0),(.int .i64 (-1)),(.int .i64 (-1))])),
 (126,[a0,a8,(.row [(.int .i64 30),(.int .i64 0),(.int .i64 7),(.int .i64 0)] 4 .unk)],(.bool false)),
 (126,[a0,a8,(.row [(.int .i64 31),(.int .i64 1),(.int .i64 5),(.int .i64 1)] 4 .unk)],(.bool true)),
 (126,[a0,a8,(.row [(.int .i64 32),(.int .i64 1),(.int .i64 5),(.int .i64 1)] 4 .unk)],(.bool true)),
 (17,[a7,.nilsl],(.tup [(.int .i64 7),(asciiV "table")]))]
theorem jyM:∀p∈t1,jdm envS p.1 p.2.1 p.2.2:=je7 jiE (S0:=s0) jv9 (k:=1000) ac
def s1:RTab:=s0++(t1)
theorem jwa:∀p∈s1,jdm envS p.1 p.2.1 p.2.2:=jmw jv9 (jyM)
def t2:RTab:=[(17,[a11,a10],(.tup [(.int .i64 0),(asciiV "")])),
 (17,[a9,a10],(.tup [(.int .i64 0),(asciiV "")])),
 (17,[a7,a10],(.tup [(.int .i64 0),(asciiV "")])),
 (17,[a5,a10],(.tup [(.int .i64 0),(asciiV "")])),
 (17,[a6,a10],(.tup [(.int .i64 0),(asciiV "")])),
 (118,[.nilsl,a7],(.bool false))]
theorem jyN:∀p∈t2,jdm envS p.1 p.2.1 p.2.2:=je7 jiE (S0:=s1) jwa (k:=1000) ac
def s2:RTab:=s1++(t2)
theorem jwb:∀p∈s2,jdm envS p.1 p.2.1 p.2.2:=jmw jwa (jyN)
def t3:RTab:=[(118,[a12,a11],(.bool true)),
 (118,[a12,a9],(.bool true)),
 (118,[a12,a7],(.bool true)),
 (118,[a12,a5],(.bool true)),
 (118,[a12,a6],(.bool true))]
theorem jyO:∀p∈t3,jdm envS p.1 p.2.1 p.2.2:=je7 jiE (S0:=s2) jwb (k:=1000) ac
def s3:RTab:=s2++(t3)
theorem jyP:∀p∈s3,jdm envS p.1 p.2.1 p.2.2:=jmw jwb (jyO)
def t4:RTab:=[(64,[],(.bool true))]
theorem jyQ:∀p∈t4,jdm envS p.1 p.2.1 p.2.2:=je7 jiE (S0:=s3) jyP (k:=1000) ac
theorem known_row:jdm envS 64 [] (.bool true):=jyQ (64,[],.bool true) (by simp[t4])
end Go.Proofs.YtajaampgajieeaaGreatDoor.r64
