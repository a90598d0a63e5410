/- Proved here: that the law's examples hold. Conditions: each theorem's own. -/
import Derived.Test.YtajaampgajieeaaGreatDoorEnvT
set_option linter.unusedSimpArgs false
set_option maxHeartbeats 16000000
set_option maxRecDepth 1000000
set_option linter.unusedVariables false
set_option linter.unusedSectionVars false
namespace Go.Proofs.YtajaampgajieeaaGreatDoor
open Go.Ab
def jz8:List Nat:=[46,23,75,177,154,155,225,226,217,166,134,264,20,241,122,143,133,234,208,257,238,284,270,316,317,296,297,298,341,325,14,15,98,72,76,73,19,74,17,96,171,172,167,168,169,170,242,243,244,246,247,251,252,253,274,275,276,277,279,280,281,283,299,300,301,302,308,313,315,326,328,64,55,47,41,37,43,45,136,137,138,58,60,152,115,120,118,195,236,105,97,26,126,116,204,36,40,49,52,112,117,185,186,187,188,189,190,230,135,210,209,109,110,111,184,31]
noncomputable def envS:Env:={ P:=Tryz.prog,pure:=λf=>memN f jz8,mutb:=λf _=>memN f [157,252,278,279,310,311,312,237,128,130,69,182,183,194],gl:=glV,hook:=F.hookF,rowB:=true }
theorem jde:envS.Ok:={ mixed:=F.env_ok.mixed,glc:=F.env_ok.glc,hook:=F.env_ok.hook }
end Go.Proofs.YtajaampgajieeaaGreatDoor
namespace Go.Proofs.YtajaampgajieeaaGreatDoor.r31
open Go.Ab
def a0:V:=(.row [(asciiV "colour"),(.int .i64 0),(.int .i64 1),(.row [(asciiV "red"),(asciiV "green")] 2 .unk)] 1 .unk)
def a1:V:=(.row [(asciiV "age"),(.int .i64 0),(.int .i64 120),.nilsl,(asciiV "colour"),(.int .i64 0),(.int .i64 1),(.row [(asciiV "red"),(asciiV "green")] 2 .unk)] 2 .unk)
def a2:V:=(.agg [(.int .i64 1),.nilsl,(.int .i64 0),(.int .i64 0),(.int .i64 0),(.int .i64 0),(asciiV ""),(.int .i64 0),.nilsl,(.int .i64 0),(.bool false),(asciiV "people"),(.int .i64 2),(asciiV ""),(asciiV ""),(asciiV ""),(.int .i64 0),.nilsl,(asciiV "2"),(.int .i64 8)])
def a3:V:=(.agg [(.int .i64 1),.nilsl,(.int .i64 0),(.int .i64 0),(.int .i64 0),(.int .i64 0),(asciiV ""),(.int .i64 0),.nilsl,(.int .i64 0),(.bool false),(asciiV "people"),(.int .i64 9),(asciiV ""),(asciiV ""),(asciiV ""),(.int .i64 0),.nilsl,(asciiV "2"),(.int .i64 8)])
def a4:V:=(.agg [(.int .i64 1),.nilsl,(.int .i64 0),(.int .i64 0),(.int .i64 0),(.int .i64 0),(asciiV ""),(.int .i64 0),.nilsl,(.int .i64 0),(.bool false),(asciiV "people"),(.int .i64 0),(asciiV ""),(asciiV ""),(asciiV ""),(.int .i64 0),.nilsl,(asciiV "2"),(.int .i64 8)])
def a5:V:=(.agg [(.int .i64 1),.nilsl,(.int .i64 0),(.int .i64 0),(.int .i64 0),(.int .i64 0),(asciiV ""),(.int .i64 0),.nilsl,(.int .i64 0),(.bool false),(asciiV "places"),(.int .i64 0),(asciiV ""),(asciiV ""),(asciiV ""),(.int .i64 0),.nilsl,(asciiV "2"),(.int .i64 8)])
def a6:V:=(.agg [(.int .i64 3),.nilsl,(.int .i64 0),(.int .i64 0),(.int .i64 0),(.int .i64 0),(asciiV "colour"),(.int .i64 0),.nilsl,(.int .i64 0),(.bool true),(asciiV "people"),(.int .i64 0),(asciiV ""),(asciiV ""),(asciiV ""),(.int .i64 0),.nilsl,(asciiV "2"),(.int .i64 8)])
def a7:V:=(.agg [(.int .i64 9),.nilsl,(.int .i64 0),(.int .i64 0),(.int .i64 0),(.int .i64 0),(asciiV "colour"),(.int .i64 0),.nilsl,(.int .i64 0),(.bool false),(asciiV "people"),(.int .i64 0),(asciiV ""),(asciiV ""),(asciiV ""),(.int .i64 0),.nilsl,(asciiV "2"),(.int .i64 8)])
def a8:V:=(.agg [(.int .i64 1),.nilsl,(.int .i64 0),(.int .i64 0),(.int .i64 0),(.int .i64 0),(asciiV ""),(.int .i64 0),.nilsl,(.int .i64 0),(.bool false),(asciiV "people"),(.int .i64 0),(asciiV "places"),(asciiV "colour"),(asciiV "colour"),(.int .i64 9),.nilsl,(asciiV "2"),(.int .i64 8)])
def a9:V:=(.agg [(.int .i64 1),.nilsl,(.int .i64 0),(.int .i64 0),(.int .i64 0),(.int .i64 0),(asciiV ""),(.int .i64 0),.nilsl,(.int .i64 0),(.bool false),(asciiV "people"),(.int .i64 0),(asciiV "visits"),(asciiV "colour"),(asciiV "colour"),(.int .i64 9),.nilsl,(asciiV "2"),(.int .i64 8)])
def a10:V:=(.agg [(.int .i64 10),.nilsl,(.int .i64 0),(.int .i64 0),(.int .i64 0),(.int .i64 0),(asciiV "colour"),(.int .i64 0),(.row [(.int .i64 0),(.int .i64 1)] 1 .full),(.int .i64 1),(.bool false),(asciiV "people"),(.int .i64 0),(asciiV ""),(asciiV ""),(asciiV ""),(.int .i64 0),.nilsl,(asciiV "2"),(.int .i64 8)])
def a11:V:=(.agg [(.int .i64 2),(.row [(.int .i64 2),(.int .i64 0),(asciiV "age")] 1 .full),(.int .i64 0),(.int .i64 0),(.int .i64 0),(.int .i64 0),(asciiV ""),(.int .i64 0),.nilsl,(.int .i64 0),(.bool false),(asciiV "people"),(.int .i64 2),(asciiV ""),(asciiV ""),(asciiV ""),(.int .i64 0),.nilsl,(asciiV "2"),(.int .i64 8)])
def a12:V:=(.agg [(.int .i64 5),(.row [(.int .i64 2),(.int .i64 0),(asciiV "age")] 1 .full),(.int .i64 0),(.int .i64 9),(.int .i64 1),(.int .i64 4),(asciiV ""),(.int .i64 0),.nilsl,(.int .i64 0),(.bool false),(asciiV "people"),(.int .i64 0),(asciiV ""),(asciiV ""),(asciiV ""),(.int .i64 0),.nilsl,(asciiV "2"),(.int .i64 8)])
def a13:V:=(.agg [(.int .i64 2),(.row [(.int .i64 2),(.int .i64 0),(asciiV "age")] 1 .full),(.int .i64 (-5)),(.int .i64 4),(.int .i64 0),(.int .i64 0),(asciiV ""),(.int .i64 0),.nilsl,(.int .i64 0),(.bool false),(asciiV "people"),(.int .i64 2),(asciiV ""),(asciiV ""),(asciiV ""),(.int .i64 0),.nilsl,(asciiV "2"),(.int .i64 8)])
def a14:V:=(.row [(asciiV "people"),(.bool false),(.int .i64 3),a1,(asciiV "visits"),(.bool false),(.int .i64 2),a0,(asciiV "places"),(.bool true),(.int .i64 0),a0] 3 .unk)
def t0:RTab:=[(257,[(asciiV "people")],(.bool true)),
 (257,[(asciiV "age")],(.bool true)),
 (257,[(asciiV "colour")],(.bool true)),
 (257,[(asciiV "red")],(.bool true)),
 (257,[(asciiV "green")],(.bool true)),
 (257,[(asciiV "visits")],(.bool true)),
 (257,[(asciiV "places")],(.bool true)),
 (169,[(asciiV "2")],(.int .i64 0))]
theorem jz9:∀p∈t0,jcE envS p.1 p.2.1 p.2.2:=jbZ jde (S0:=[]) jnh (k:=1000) ac
def t1:RTab:=[(170,[(asciiV "2"),(asciiV "1")],(.tup [(.int .i64 1),(.int .i64 0)]))]
theorem jAa:∀p∈t1,jcE envS p.1 p.2.1 p.2.2:=jbZ jde (S0:=[]) jnh (k:=1000) ac
def t2:RTab:=[(170,[(asciiV "2"),(asciiV "1000000")],(.tup [(.int .i64 (-1)),(.int .i64 0)]))]
theorem jAb:∀p∈t2,jcE envS p.1 p.2.1 p.2.2:=jbZ jde (S0:=[]) jnh (k:=1000) ac
def s0:RTab:=t0++(t1++(t2))
theorem jxK:∀p∈s0,jcE envS p.1 p.2.1 p.2.2:=jdF jz9 (jdF jAa (jAb))
def t3:RTab:=[(96,[a14],(.tup [(.int .i64 0),(.int .i64 (-1)),(.int .i64 (-1))]))]
theorem jAc:∀p∈t3,jcE envS p.1 p.2.1 p.2.2:=jbZ jde (S0:=s0) jxK (k:=1000) ac
def s1:RTab:=s0++(t3)
theorem jn3:∀p∈s1,jcE envS p.1 p.2.1 p.2.2:=jdF jxK (jAc)
def t4:RTab:=[(17,[a2,a14],(.tup [(.int .i64 0),(asciiV "")])),
 (17,[a3,a14],(.tup [(.int .i64 0),(asciiV "")]))]
theorem jAd:∀p∈t4,jcE envS p.1 p.2.1 p.2.2:=jbZ jde (S0:=s1) jn3 (k:=1000) ac
def t5:RTab:=[(17,[a11,a14],(.tup [(.int .i64 0),(asciiV "")])),
 (17,[a8,a14],(.tup [(.int .i64 0),(asciiV "")]))]
theorem jAe:∀p∈t5,jcE envS p.1 p.2.1 p.2.2:=jbZ jde (S0:=s1) jn3 (k:=1000) ac
def t6:RTab:=[(17,[a6,a14],(.tup [(.int .i64 0),(asciiV "")])),
 (17,[a7,a14],(.tup [(.int .i64 0),(asciiV "")]))]
theorem jAf:∀p∈t6,jcE envS p.1 p.2.1 p.2.2:=jbZ jde (S0:=s1) jn3 (k:=1000) ac
def t7:RTab:=[(17,[a10,a14],(.tup [(.int .i64 0),(asciiV "")])),
 (17,[a12,a14],(.tup [(.int .i64 0),(asciiV "")]))]
theorem jAg:∀p∈t7,jcE envS p.1 p.2.1 p.2.2:=jbZ jde (S0:=s1) jn3 (k:=1000) ac
def t8:RTab:=[(17,[a4,a14],(.tup [(.int .i64 0),(asciiV "")])),
 (17,[a13,a14],(.tup [(.int .i64 0),(asciiV "")]))]
theorem jAh:∀p∈t8,jcE envS p.1 p.2.1 p.2.2:=jbZ jde (S0:=s1) jn3 (k:=1000) ac
def t9:RTab:=[(17,[a9,a14],(.tup [(.int .i64 0),(asciiV "")])),
 (17,[a5,a14],(.tup [(.int .i64 0),(asciiV "")]))]
theorem jAi:∀p∈t9,jcE envS p.1 p.2.1 p.2.2:=jbZ jde (S0:=s1) jn3 (k:=1000) ac
def s2:RTab:=s1++(t4++(t5++(t6++(t7++(t8++(t9))))))
theorem juc:∀p∈s2,jcE envS p.1 p.2.1 p.2.2:=jdF jn3 (jdF jAd (jdF jAe (jdF jAf (jdF jAg (jdF jAh (jAi))))))
def t10:RTab:=[(110,[a2,(.int .i64 2),(.int .i64 2)],(.bool true)),
 (110,[a3,(.int .i64 3),(.int .i64 3)],(.bool true)),
 (110,[a11,(.int .i64 2),(.int .i64 1)],(.bool true)),
 (110,[a8,(.int .i64 27),(.int .i64 27)],(.bool true))]
theorem jxL:∀p∈t10,jcE envS p.1 p.2.1 p.2.2:=jbZ jde (S0:=s2) juc (k:=1000) ac
def t11:RTab:=[(110,[a6,(.int .i64 3),(.int .i64 6)],(.bool true)),
 (110,[a7,(.int .i64 3),(.int .i64 6)],(.bool true)),
 (110,[a10,(.int .i64 3),(.int .i64 6)],(.bool true))]
theorem jxM:∀p∈t11,jcE envS p.1 p.2.1 p.2.2:=jbZ jde (S0:=s2) juc (k:=1000) ac
def t12:RTab:=[(110,[a12,(.int .i64 3),(.int .i64 9)],(.bool true)),
 (110,[a4,(.int .i64 3),(.int .i64 3)],(.bool true)),
 (110,[a13,(.int .i64 2),(.int .i64 10)],(.bool true)),
 (110,[a9,(.int .i64 6),(.int .i64 6)],(.bool true)),
 (110,[a5,(.int .i64 0),(.int .i64 0)],(.bool true))]
theorem jxN:∀p∈t12,jcE envS p.1 p.2.1 p.2.2:=jbZ jde (S0:=s2) juc (k:=1000) ac
def s3:RTab:=s2++(t10++(t11++(t12)))
theorem jAj:∀p∈s3,jcE envS p.1 p.2.1 p.2.2:=jdF juc (jdF jxL (jdF jxM (jxN)))
def t13:RTab:=[(31,[],(.bool true))]
theorem jxO:∀p∈t13,jcE envS p.1 p.2.1 p.2.2:=jbZ jde (S0:=s3) jAj (k:=1000) ac
theorem known_row:jcE envS 31 [] (.bool true):=jxO (31,[],.bool true) (by simp[t13])
end Go.Proofs.YtajaampgajieeaaGreatDoor.r31
