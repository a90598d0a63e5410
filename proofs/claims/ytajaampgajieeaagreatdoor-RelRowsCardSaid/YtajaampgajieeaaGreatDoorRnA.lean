/- Proved here: factors by runs, and that the law's examples hold. Conditions: those of each theorem; no statement of the seat is proved in this text. -/
import Derived.Test.YtajaampgajieeaaGreatDoorEnvT
set_option linter.unusedSimpArgs false
set_option maxHeartbeats 16000000
set_option maxRecDepth 1000000
set_option linter.unusedVariables false
set_option linter.unusedSectionVars false
namespace Go.Proofs.YtajaampgajieeaaGreatDoor.F
open Go.Ab
theorem ck_0(U:S):jai env (ev env) 169 [.str [50]] U=some (.int .i64 0,U):=ja6 rfl rfl rfl (k:=80) (by rw[<- jb9];kernel_rfl) U
theorem lo_0(U:S):jai env (ev env) 170 [.str [50],.str [49]] U=some (.tup [.int .i64 1,.int .i64 0],U):=ja6 rfl rfl rfl (k:=80) (by rw[<- jb9];kernel_rfl) U
theorem hi_0(U:S):jai env (ev env) 170 [.str [50],.str [49,48,48,48,48,48,48]] U=some (.tup [.int .i64 (-1),.int .i64 0],U):=ja6 rfl rfl rfl (k:=80) (by rw[<- jb9];kernel_rfl) U
theorem ck_1(U:S):jai env (ev env) 169 [.str [51,47,50]] U=some (.int .i64 0,U):=ja6 rfl rfl rfl (k:=80) (by rw[<- jb9];kernel_rfl) U
theorem lo_1(U:S):jai env (ev env) 170 [.str [51,47,50],.str [49]] U=some (.tup [.int .i64 1,.int .i64 0],U):=ja6 rfl rfl rfl (k:=80) (by rw[<- jb9];kernel_rfl) U
theorem hi_1(U:S):jai env (ev env) 170 [.str [51,47,50],.str [49,48,48,48,48,48,48]] U=some (.tup [.int .i64 (-1),.int .i64 0],U):=ja6 rfl rfl rfl (k:=80) (by rw[<- jb9];kernel_rfl) U
theorem ck_2(U:S):jai env (ev env) 169 [.str [49,49,47,49,48]] U=some (.int .i64 0,U):=ja6 rfl rfl rfl (k:=80) (by rw[<- jb9];kernel_rfl) U
theorem lo_2(U:S):jai env (ev env) 170 [.str [49,49,47,49,48],.str [49]] U=some (.tup [.int .i64 1,.int .i64 0],U):=ja6 rfl rfl rfl (k:=80) (by rw[<- jb9];kernel_rfl) U
theorem hi_2(U:S):jai env (ev env) 170 [.str [49,49,47,49,48],.str [49,48,48,48,48,48,48]] U=some (.tup [.int .i64 (-1),.int .i64 0],U):=ja6 rfl rfl rfl (k:=80) (by rw[<- jb9];kernel_rfl) U
theorem ck_3(U:S):jai env (ev env) 169 [.str [51]] U=some (.int .i64 0,U):=ja6 rfl rfl rfl (k:=80) (by rw[<- jb9];kernel_rfl) U
theorem lo_3(U:S):jai env (ev env) 170 [.str [51],.str [49]] U=some (.tup [.int .i64 1,.int .i64 0],U):=ja6 rfl rfl rfl (k:=80) (by rw[<- jb9];kernel_rfl) U
theorem hi_3(U:S):jai env (ev env) 170 [.str [51],.str [49,48,48,48,48,48,48]] U=some (.tup [.int .i64 (-1),.int .i64 0],U):=ja6 rfl rfl rfl (k:=80) (by rw[<- jb9];kernel_rfl) U
theorem ck_4(U:S):jai env (ev env) 169 [.str [49,48,49,47,49,48,48]] U=some (.int .i64 0,U):=ja6 rfl rfl rfl (k:=80) (by rw[<- jb9];kernel_rfl) U
theorem lo_4(U:S):jai env (ev env) 170 [.str [49,48,49,47,49,48,48],.str [49]] U=some (.tup [.int .i64 1,.int .i64 0],U):=ja6 rfl rfl rfl (k:=80) (by rw[<- jb9];kernel_rfl) U
theorem hi_4(U:S):jai env (ev env) 170 [.str [49,48,49,47,49,48,48],.str [49,48,48,48,48,48,48]] U=some (.tup [.int .i64 (-1),.int .i64 0],U):=ja6 rfl rfl rfl (k:=80) (by rw[<- jb9];kernel_rfl) U
end Go.Proofs.YtajaampgajieeaaGreatDoor.F
namespace Go.Proofs.YtajaampgajieeaaGreatDoor
open Go.Ab
def jyW:List Nat:=[46,23,75,177,154,155,225,226,217,166,134,264,20,241,122,143,133,234,208,257,238,284,270,316,317,296,297,298,341,325,14,15,98,72,76,73,19,74,17,96,171,172,167,168,169,170,242,243,244,246,247,251,252,253,274,275,276,277,279,280,281,283,299,300,301,302,308,313,315,326,328,64,55,47,41,37,43,45,136,137,138,58,60,152,115,120,118,195,236,105,97,26,126,116,204]
noncomputable def envS:Env:={ P:=Tryz.prog,pure:=λf=>memN f jyW,mutb:=λf _=>memN f [157,252,278,279,310,311,312,237,128,130,69,182,183,194],gl:=glV,hook:=F.hookF,rowB:=true }
theorem jck:envS.Ok:={ mixed:=F.env_ok.mixed,glc:=F.env_ok.glc,hook:=F.env_ok.hook }
end Go.Proofs.YtajaampgajieeaaGreatDoor
namespace Go.Proofs.YtajaampgajieeaaGreatDoor.r64
open Go.Ab
def a0:V:=(.row [(.int .i64 30),(.int .i64 0),(.int .i64 7),(.int .i64 0)] 4 .unk)
def a1:V:=(.row [(.int .i64 31),(.int .i64 1),(.int .i64 5),(.int .i64 1)] 4 .unk)
def a2:V:=(.row [(.int .i64 32),(.int .i64 1),(.int .i64 5),(.int .i64 1)] 4 .unk)
def a3:V:=(.row [(.int .i64 30),(.int .i64 0),(.int .i64 30),(.int .i64 0)] 4 .unk)
def a4:V:=(.row [(.int .i64 31),(.int .i64 1),(.int .i64 31),(.int .i64 1)] 4 .unk)
def a5:V:=(.row [(.int .i64 32),(.int .i64 1),(.int .i64 32),(.int .i64 1)] 4 .unk)
def a6:V:=(.tup [(.agg [(asciiV "age"),(.int .i64 0),(.int .i64 120),.nilsl]),(.bool true)])
def a7:V:=(.agg [(asciiV "colour"),(.int .i64 0),(.int .i64 1),(.row [(asciiV "red"),(asciiV "green")] 2 .unk)])
def a8:V:=(.tup [a7,(.bool true)])
def a9:V:=(.row [(.int .i64 1),(.row [(.int .i64 30),(.int .i64 0)] 2 .unk),(.int .i64 2),(.row [(.int .i64 31),(.int .i64 1)] 2 .unk)] 2 .unk)
def a10:V:=(.row [(.int .i64 2),(.int .i64 0),(asciiV "age"),(.int .i64 1),(.int .i64 30),(asciiV ""),(.int .i64 13),(.int .i64 0),(asciiV "")] 3 .full)
def a11:V:=(.row [(asciiV "age"),(.int .i64 0),(.int .i64 120),.nilsl,(asciiV "colour"),(.int .i64 0),(.int .i64 1),(.row [(asciiV "red"),(asciiV "green")] 2 .unk)] 2 .unk)
def a12:V:=(.row [(asciiV "place"),(.int .i64 0),(.int .i64 9),.nilsl,(asciiV "colour"),(.int .i64 0),(.int .i64 1),(.row [(asciiV "red"),(asciiV "green")] 2 .unk)] 2 .unk)
def a13:V:=(.row [(.int .i64 0),(.row [(.int .i64 5),(.int .i64 1)] 2 .unk),(.int .i64 0),(.row [(.int .i64 6),(.int .i64 1)] 2 .unk),(.int .i64 0),(.row [(.int .i64 7),(.int .i64 0)] 2 .unk)] 3 .unk)
def a14:V:=(.row [(.int .i64 2),a1,(.int .i64 1),a2] 2 .unk)
def a15:V:=(.row [(.int .i64 1),(.row [(.int .i64 30),(.int .i64 0)] 2 .unk),(.int .i64 2),(.row [(.int .i64 31),(.int .i64 1)] 2 .unk),(.int .i64 1),(.row [(.int .i64 32),(.int .i64 1)] 2 .unk)] 3 .unk)
def a16:V:=(.agg [(asciiV ""),(.bool false),(.int .i64 0),a11])
def a17:V:=(.agg [(asciiV "places"),(.bool true),(.int .i64 0),a12])
def a18:V:=(.agg [(asciiV "people"),(.bool false),(.int .i64 3),a11])
def a19:V:=(.agg [(.int .i64 1),.nilsl,(.int .i64 0),(.int .i64 0),(.int .i64 0),(.int .i64 0),(asciiV ""),(.int .i64 0),.nilsl,(.int .i64 0),(.bool false),(asciiV "people"),(.int .i64 1),(asciiV ""),(asciiV ""),(asciiV ""),(.int .i64 0),.nilsl,(asciiV "2"),(.int .i64 8)])
def a20:V:=(.agg [(.int .i64 3),.nilsl,(.int .i64 0),(.int .i64 0),(.int .i64 0),(.int .i64 0),(asciiV "colour"),(.int .i64 0),.nilsl,(.int .i64 0),(.bool false),(asciiV "people"),(.int .i64 0),(asciiV ""),(asciiV ""),(asciiV ""),(.int .i64 0),.nilsl,(asciiV "2"),(.int .i64 8)])
def a21:V:=(.row [(.int .i64 1),a3,(.int .i64 2),a4,(.int .i64 1),a5] 3 .unk)
def a22:V:=(.agg [(.int .i64 1),.nilsl,(.int .i64 0),(.int .i64 0),(.int .i64 0),(.int .i64 0),(asciiV ""),(.int .i64 0),.nilsl,(.int .i64 0),(.bool false),(asciiV "people"),(.int .i64 0),(asciiV "people"),(asciiV "colour"),(asciiV "colour"),(.int .i64 2),.nilsl,(asciiV "2"),(.int .i64 8)])
def a23:V:=(.row [(asciiV "age"),(.int .i64 0),(.int .i64 120),.nilsl,(asciiV "colour"),(.int .i64 0),(.int .i64 1),(.row [(asciiV "red"),(asciiV "green")] 2 .unk),(asciiV "place"),(.int .i64 0),(.int .i64 9),.nilsl,(asciiV "colour"),(.int .i64 0),(.int .i64 1),(.row [(asciiV "red"),(asciiV "green")] 2 .unk)] 4 .unk)
def a24:V:=(.row [(asciiV "age"),(.int .i64 0),(.int .i64 120),.nilsl,(asciiV "colour"),(.int .i64 0),(.int .i64 1),(.row [(asciiV "red"),(asciiV "green")] 2 .unk),(asciiV "age"),(.int .i64 0),(.int .i64 120),.nilsl,(asciiV "colour"),(.int .i64 0),(.int .i64 1),(.row [(asciiV "red"),(asciiV "green")] 2 .unk)] 4 .unk)
def a25:V:=(.agg [(.int .i64 4),(.row [(.int .i64 2),(.int .i64 0),(asciiV "age")] 1 .full),(.int .i64 0),(.int .i64 31),(.int .i64 0),(.int .i64 0),(asciiV "colour"),(.int .i64 0),.nilsl,(.int .i64 0),(.bool false),(asciiV "people"),(.int .i64 0),(asciiV ""),(asciiV ""),(asciiV ""),(.int .i64 0),.nilsl,(asciiV "2"),(.int .i64 8)])
def a26:V:=(.agg [(asciiV ""),(.bool false),(.int .i64 0),a23])
def a27:V:=(.agg [(asciiV ""),(.bool false),(.int .i64 0),a24])
def a28:V:=(.agg [(asciiV "people"),(.bool false),(.int .i64 3),a11,a15])
def a29:V:=(.row [(asciiV "people"),(.bool false),(.int .i64 3),a11,(asciiV "places"),(.bool true),(.int .i64 0),a12] 2 .unk)
def a30:V:=(.agg [(.int .i64 2),(.row [(.int .i64 2),(.int .i64 0),(asciiV "place")] 1 .full),(.int .i64 0),(.int .i64 5),(.int .i64 0),(.int .i64 0),(asciiV ""),(.int .i64 0),.nilsl,(.int .i64 0),(.bool false),(asciiV "people"),(.int .i64 0),(asciiV "places"),(asciiV "colour"),(asciiV "colour"),(.int .i64 1),a10,(asciiV "2"),(.int .i64 8)])
def a31:V:=(.row [(asciiV "above"),(asciiV "and"),(asciiV "batch"),(asciiV "between"),(asciiV "bits"),(asciiV "by"),(asciiV "consistent"),(asciiV "count"),(asciiV "else"),(asciiV "factor"),(asciiV "from"),(asciiV "histogram"),(asciiV "identity"),(asciiV "if"),(asciiV "join"),(asciiV "keep"),(asciiV "late"),(asciiV "limit"),(asciiV "mode"),(asciiV "none"),(asciiV "not"),(asciiV "of"),(asciiV "on"),(asciiV "or"),(asciiV "peak"),(asciiV "prefix"),(asciiV "quantile"),(asciiV "running"),(asciiV "sum"),(asciiV "then"),(asciiV "total"),(asciiV "tree"),(asciiV "using"),(asciiV "where"),(asciiV "with")] 35 .full)
def a32:V:=(.row [(asciiV "people"),(.bool false),(.int .i64 3),a11,a15,(asciiV "places"),(.bool true),(.int .i64 0),a12,a13] 2 .unk)
def t0:RTab:=[(136,[(.int .i64 2)],(.agg [(.int .i64 2),.nilsl,(.int .i64 0),(.int .i64 0),(.int .i64 0),(.int .i64 0),(asciiV ""),(.int .i64 0),.nilsl,(.int .i64 0),(.bool false),(asciiV "people"),(.int .i64 0),(asciiV ""),(asciiV ""),(asciiV ""),(.int .i64 0),.nilsl,(asciiV "2"),(.int .i64 8)])),
 (136,[(.int .i64 4)],(.agg [(.int .i64 4),.nilsl,(.int .i64 0),(.int .i64 0),(.int .i64 0),(.int .i64 0),(asciiV ""),(.int .i64 0),.nilsl,(.int .i64 0),(.bool false),(asciiV "people"),(.int .i64 0),(asciiV ""),(asciiV ""),(asciiV ""),(.int .i64 0),.nilsl,(asciiV "2"),(.int .i64 8)])),
 (136,[(.int .i64 1)],(.agg [(.int .i64 1),.nilsl,(.int .i64 0),(.int .i64 0),(.int .i64 0),(.int .i64 0),(asciiV ""),(.int .i64 0),.nilsl,(.int .i64 0),(.bool false),(asciiV "people"),(.int .i64 0),(asciiV ""),(asciiV ""),(asciiV ""),(.int .i64 0),.nilsl,(asciiV "2"),(.int .i64 8)])),
 (152,[(asciiV "place")],(.agg [(.int .i64 2),(.int .i64 0),(asciiV "place")])),
 (152,[(asciiV "age")],(.agg [(.int .i64 2),(.int .i64 0),(asciiV "age")])),
 (138,[(.int .i64 1),(.row [(.int .i64 30),(.int .i64 0)] 2 .full)],(.agg [(.int .i64 1),(.row [(.int .i64 30),(.int .i64 0)] 2 .unk)])),
 (138,[(.int .i64 2),(.row [(.int .i64 31),(.int .i64 1)] 2 .full)],(.agg [(.int .i64 2),(.row [(.int .i64 31),(.int .i64 1)] 2 .unk)])),
 (138,[(.int .i64 1),(.row [(.int .i64 32),(.int .i64 1)] 2 .full)],(.agg [(.int .i64 1),(.row [(.int .i64 32),(.int .i64 1)] 2 .unk)])),
 (138,[(.int .i64 0),(.row [(.int .i64 5),(.int .i64 1)] 2 .full)],(.agg [(.int .i64 0),(.row [(.int .i64 5),(.int .i64 1)] 2 .unk)])),
 (138,[(.int .i64 0),(.row [(.int .i64 6),(.int .i64 1)] 2 .full)],(.agg [(.int .i64 0),(.row [(.int .i64 6),(.int .i64 1)] 2 .unk)])),
 (138,[(.int .i64 0),(.row [(.int .i64 7),(.int .i64 0)] 2 .full)],(.agg [(.int .i64 0),(.row [(.int .i64 7),(.int .i64 0)] 2 .unk)])),
 (105,[a18],a18),
 (105,[a17],a17),
 (341,[(asciiV "limit")],(.bool false)),
 (341,[(asciiV "quantile")],(.bool false)),
 (341,[(asciiV "on")],(.bool false)),
 (341,[(asciiV "peak")],(.bool false)),
 (341,[(asciiV "prefix")],(.bool false)),
 (317,[(asciiV "prefix")],(.bool false)),
 (341,[(asciiV "else")],(.bool false)),
 (341,[(asciiV "bits")],(.bool false)),
 (341,[(asciiV "batch")],(.bool false)),
 (341,[(asciiV "and")],(.bool false)),
 (341,[(asciiV "above")],(.bool false)),
 (317,[(asciiV "and")],(.bool false)),
 (341,[(asciiV "consistent")],(.bool false)),
 (341,[(asciiV "by")],(.bool false)),
 (317,[(asciiV "consistent")],(.bool false)),
 (341,[(asciiV "tree")],(.bool false)),
 (341,[(asciiV "then")],(.bool false)),
 (341,[(asciiV "sum")],(.bool false)),
 (341,[(asciiV "running")],(.bool false)),
 (317,[(asciiV "running")],(.bool false)),
 (341,[(asciiV "if")],(.bool false)),
 (341,[(asciiV "histogram")],(.bool false)),
 (341,[(asciiV "from")],(.bool false)),
 (317,[(asciiV "histogram")],(.bool false)),
 (298,[(.row [(asciiV "red"),(asciiV "green")] 2 .unk)],(.bool false)),
 (172,[(.int .i64 (-1))],(.tup [(.int .i64 0),(.bool false)])),
 (172,[(.int .i64 0)],(.tup [(.int .i64 0),(.bool true)])),
 (172,[(.int .i64 1)],(.tup [(.int .i64 1),(.bool true)])),
 (167,[(.row [(asciiV "red"),(asciiV "green")] 2 .unk),(.row [(asciiV "red"),(asciiV "green")] 2 .unk)],(.bool true)),
 (154,[],(.agg [.nilsl,(.int .i64 0),.nilsl,(.int .i64 0),.nilsl,(.int .i64 0),.nilsl,(.int .i64 0),(.row [(.int .i64 0),(.int .i64 0)] 2 .unk),(.int .i64 0),(.row [(.int .i64 0),(.int .i64 0)] 2 .unk),(.int .i64 0),(.row [(.int .i64 0),(.int .i64 0)] 2 .unk),(.int .i64 0),(.row [(.int .i64 0)] 1 .unk),(.int .i64 0),(.row [(.int .i64 1),(.int .i64 0),(.int .i64 0)] 3 .unk),(.int .i64 0),(.row [(.int .i64 0),(.int .i64 0)] 2 .unk),(.int .i64 1),(.row [(.int .i64 0),(.int .i64 0)] 2 .unk),(.int .i64 1),(.row [(.int .i64 0),(.int .i64 0)] 2 .unk),(.int .i64 1),(.row [(.int .i64 0),(.int .i64 0)] 2 .unk),(.int .i64 1),(.row [(.int .i64 0),(.int .i64 0)] 2 .unk),(.int .i64 1),(.row [(.int .i64 0),(.int .i64 0)] 2 .unk),(.int .i64 1),(.row [(.int .i64 1),(.int .i64 1)] 2 .unk),(.int .i64 1),(.row [(.int .i64 1),(.int .i64 1)] 2 .unk),(.int .i64 1),(.row [(.int .i64 1)] 1 .unk),(.int .i64 1)])),
 (155,[a10,(.int .i64 1),a23],(.int .i64 0)),
 (155,[a10,(.int .i64 2),a23],(.int .i64 0)),
 (172,[(.int .i64 2)],(.tup [(.int .i64 2),(.bool true)])),
 (168,[(.int .i64 0)],(.bool false)),
 (168,[(.int .i64 5)],(.bool false)),
 (326,[(asciiV "2"),(.int .u8 47)],(.int .i64 (-1))),
 (300,[(asciiV "2"),(asciiV "-")],(.tup [(asciiV "2"),(.bool false)])),
 (276,[(asciiV "2"),(asciiV "0123456789")],(asciiV "")),
 (308,[(asciiV "2"),(.int .i64 10),(.int .i64 64)],(.tup [(.int .u64 2),.nilif])),
 (308,[(asciiV "1"),(.int .i64 10),(.int .i64 64)],(.tup [(.int .u64 1),.nilif])),
 (326,[(asciiV "1"),(.int .u8 47)],(.int .i64 (-1))),
 (300,[(asciiV "1"),(asciiV "-")],(.tup [(asciiV "1"),(.bool false)])),
 (276,[(asciiV "1"),(asciiV "0123456789")],(asciiV "")),
 (280,[(.row [(.int .u64 2)] 1 .unk)],(.bool false)),
 (280,[(.row [(.int .u64 1)] 1 .unk)],(.bool false)),
 (252,[(.row [(.int .u64 2)] 1 .unk),(.row [(.int .u64 1)] 1 .unk)],(.row [(.int .u64 2),(.int .u64 0)] 1 .unk)),
 (252,[(.row [(.int .u64 1)] 1 .unk),(.row [(.int .u64 1)] 1 .unk)],(.row [(.int .u64 1),(.int .u64 0)] 1 .unk)),
 (315,[(.int .u64 2)],(.bool false)),
 (315,[(.int .u64 1)],(.bool false)),
 (326,[(asciiV "1000000"),(.int .u8 47)],(.int .i64 (-1))),
 (300,[(asciiV "1000000"),(asciiV "-")],(.tup [(asciiV "1000000"),(.bool false)])),
 (276,[(asciiV "1000000"),(asciiV "0123456789")],(asciiV "")),
 (308,[(asciiV "1000000"),(.int .i64 10),(.int .i64 64)],(.tup [(.int .u64 1000000),.nilif])),
 (280,[(.row [(.int .u64 1000000)] 1 .unk)],(.bool false)),
 (252,[(.row [(.int .u64 1000000)] 1 .unk),(.row [(.int .u64 1)] 1 .unk)],(.row [(.int .u64 1000000),(.int .u64 0)] 1 .unk)),
 (315,[(.int .u64 1000000)],(.bool false)),
 (105,[a26],a26),
 (204,[(.row [(.row [(.int .i64 30),(.int .i64 0)] 2 .unk),(.row [(.int .i64 7),(.int .i64 0)] 2 .unk)] 2 .full)],a0),
 (204,[(.row [(.row [(.int .i64 31),(.int .i64 1)] 2 .unk),(.row [(.int .i64 5),(.int .i64 1)] 2 .unk)] 2 .full)],a1),
 (204,[(.row [(.row [(.int .i64 32),(.int .i64 1)] 2 .unk),(.row [(.int .i64 5),(.int .i64 1)] 2 .unk)] 2 .full)],a2),
 (138,[(.int .i64 2),(.row [(.int .i64 31),(.int .i64 1),(.int .i64 5),(.int .i64 1)] 4 .full)],(.agg [(.int .i64 2),a1])),
 (138,[(.int .i64 1),(.row [(.int .i64 32),(.int .i64 1),(.int .i64 5),(.int .i64 1)] 4 .full)],(.agg [(.int .i64 1),a2])),
 (60,[a1,a1],(.bool true)),
 (60,[a2,a2],(.bool true)),
 (60,[(.row [(.int .i64 5),(.int .i64 5)] 2 .unk),(.row [(.int .i64 5),(.int .i64 5)] 2 .full)],(.bool true)),
 (105,[a16],a16),
 (168,[(.int .i64 31)],(.bool false)),
 (60,[(.row [(.int .i64 30),(.int .i64 31),(.int .i64 31)] 3 .unk),(.row [(.int .i64 30),(.int .i64 31),(.int .i64 31)] 3 .full)],(.bool true)),
 (60,[(.row [(.int .i64 30),(.int .i64 62)] 2 .unk),(.row [(.int .i64 30),(.int .i64 62)] 2 .full)],(.bool true)),
 (204,[(.row [(.row [(.int .i64 30),(.int .i64 0)] 2 .unk),(.row [(.int .i64 30),(.int .i64 0)] 2 .unk)] 2 .full)],a3),
 (204,[(.row [(.row [(.int .i64 31),(.int .i64 1)] 2 .unk),(.row [(.int .i64 31),(.int .i64 1)] 2 .unk)] 2 .full)],a4),
 (204,[(.row [(.row [(.int .i64 32),(.int .i64 1)] 2 .unk),(.row [(.int .i64 32),(.int .i64 1)] 2 .unk)] 2 .full)],a5),
 (138,[(.int .i64 1),(.row [(.int .i64 30),(.int .i64 0),(.int .i64 30),(.int .i64 0)] 4 .full)],(.agg [(.int .i64 1),a3])),
 (138,[(.int .i64 2),(.row [(.int .i64 31),(.int .i64 1),(.int .i64 31),(.int .i64 1)] 4 .full)],(.agg [(.int .i64 2),a4])),
 (138,[(.int .i64 1),(.row [(.int .i64 32),(.int .i64 1),(.int .i64 32),(.int .i64 1)] 4 .full)],(.agg [(.int .i64 1),a5])),
 (60,[a3,a3],(.bool true)),
 (60,[a4,a4],(.bool true)),
 (60,[a5,a5],(.bool true)),
 (136,[(.int .i64 3)],(.agg [(.int .i64 3),.nilsl,(.int .i64 0),(.int .i64 0),(.int .i64 0),(.int .i64 0),(asciiV ""),(.int .i64 0),.nilsl,(.int .i64 0),(.bool false),(asciiV "people"),(.int .i64 0),(asciiV ""),(asciiV ""),(asciiV ""),(.int .i64 0),.nilsl,(asciiV "2"),(.int .i64 8)])),
 (60,[(.row [(.int .i64 30),(.int .i64 0)] 2 .unk),(.row [(.int .i64 30),(.int .i64 0)] 2 .unk)],(.bool true)),
 (60,[(.row [(.int .i64 31),(.int .i64 1)] 2 .unk),(.row [(.int .i64 31),(.int .i64 1)] 2 .unk)],(.bool true)),
 (60,[(.row [(.int .i64 1),(.int .i64 2)] 2 .unk),(.row [(.int .i64 1),(.int .i64 2)] 2 .full)],(.bool true)),
 (115,[.nilsl],.nilsl),
 (96,[.nilsl],(.tup [(.int .i64 0),(.int .i64 (-1)),(.int .i64 (-1))])),
 (105,[a27],a27)]
theorem jyX:∀p∈t0,jbF envS p.1 p.2.1 p.2.2:=jbt jck (S0:=[]) jtL (k:=1000) (by kernel_rfl)
def s0:RTab:=t0
theorem jwg:∀p∈s0,jbF envS p.1 p.2.1 p.2.2:=jyX
def t1:RTab:=[(137,[],a32),
 (115,[a32],a29),
 (316,[(asciiV "limit"),(asciiV "people")],(.bool true)),
 (316,[(asciiV "quantile"),(asciiV "people")],(.bool false)),
 (316,[(asciiV "on"),(asciiV "people")],(.bool true)),
 (316,[(asciiV "peak"),(asciiV "people")],(.bool true)),
 (316,[(asciiV "prefix"),(asciiV "people")],(.bool false)),
 (316,[(asciiV "limit"),(asciiV "age")],(.bool false)),
 (316,[(asciiV "else"),(asciiV "age")],(.bool false)),
 (316,[(asciiV "bits"),(asciiV "age")],(.bool false)),
 (316,[(asciiV "batch"),(asciiV "age")],(.bool false)),
 (316,[(asciiV "and"),(asciiV "age")],(.bool false)),
 (316,[(asciiV "above"),(asciiV "age")],(.bool true)),
 (316,[(asciiV "limit"),(asciiV "colour")],(.bool false)),
 (316,[(asciiV "else"),(asciiV "colour")],(.bool false)),
 (316,[(asciiV "bits"),(asciiV "colour")],(.bool true)),
 (316,[(asciiV "consistent"),(asciiV "colour")],(.bool false)),
 (316,[(asciiV "by"),(asciiV "colour")],(.bool true)),
 (316,[(asciiV "limit"),(asciiV "red")],(.bool true)),
 (316,[(asciiV "quantile"),(asciiV "red")],(.bool true)),
 (316,[(asciiV "tree"),(asciiV "red")],(.bool false)),
 (316,[(asciiV "then"),(asciiV "red")],(.bool false)),
 (316,[(asciiV "sum"),(asciiV "red")],(.bool false)),
 (316,[(asciiV "running"),(asciiV "red")],(.bool false)),
 (316,[(asciiV "limit"),(asciiV "green")],(.bool false)),
 (316,[(asciiV "else"),(asciiV "green")],(.bool true)),
 (316,[(asciiV "if"),(asciiV "green")],(.bool false)),
 (316,[(asciiV "histogram"),(asciiV "green")],(.bool false)),
 (316,[(asciiV "from"),(asciiV "green")],(.bool true)),
 (97,[(.row [] 0 .unk),(asciiV "people")],(.tup [(.int .i64 0),(.bool false)])),
 (316,[(asciiV "limit"),(asciiV "places")],(.bool true)),
 (316,[(asciiV "quantile"),(asciiV "places")],(.bool false)),
 (316,[(asciiV "on"),(asciiV "places")],(.bool true)),
 (316,[(asciiV "peak"),(asciiV "places")],(.bool true)),
 (316,[(asciiV "prefix"),(asciiV "places")],(.bool false)),
 (316,[(asciiV "limit"),(asciiV "place")],(.bool true)),
 (316,[(asciiV "quantile"),(asciiV "place")],(.bool false)),
 (316,[(asciiV "on"),(asciiV "place")],(.bool true)),
 (316,[(asciiV "peak"),(asciiV "place")],(.bool true)),
 (316,[(asciiV "prefix"),(asciiV "place")],(.bool false)),
 (97,[(.row [(asciiV "people"),(.bool false),(.int .i64 3),a11] 1 .unk),(asciiV "places")],(.tup [(.int .i64 0),(.bool false)])),
 (97,[a29,(asciiV "people")],(.tup [(.int .i64 0),(.bool true)])),
 (97,[a29,(asciiV "places")],(.tup [(.int .i64 1),(.bool true)])),
 (122,[a16,(asciiV "colour")],(.tup [(.int .i64 1),(.bool true)])),
 (122,[(.agg [(asciiV ""),(.bool false),(.int .i64 0),a12]),(asciiV "colour")],(.tup [(.int .i64 1),(.bool true)])),
 (122,[a26,(asciiV "age")],(.tup [(.int .i64 0),(.bool true)])),
 (122,[a26,(asciiV "place")],(.tup [(.int .i64 2),(.bool true)])),
 (299,[(asciiV "2"),(asciiV "/")],(.int .i64 (-1))),
 (275,[(asciiV "2"),(asciiV "-")],(.tup [(asciiV "2"),(.bool false)])),
 (244,[(asciiV "2")],(.bool true)),
 (277,[(asciiV "2"),(.int .i64 10),(.int .i64 64)],(.tup [(.int .u64 2),.nilif])),
 (277,[(asciiV "1"),(.int .i64 10),(.int .i64 64)],(.tup [(.int .u64 1),.nilif])),
 (299,[(asciiV "1"),(asciiV "/")],(.int .i64 (-1))),
 (275,[(asciiV "1"),(asciiV "-")],(.tup [(asciiV "1"),(.bool false)])),
 (244,[(asciiV "1")],(.bool true)),
 (251,[(.agg [(.bool false),(.row [(.int .u64 2)] 1 .unk),(.row [(.int .u64 1)] 1 .unk)])],(.int .i64 1)),
 (251,[(.agg [(.bool false),(.row [(.int .u64 1)] 1 .unk),(.row [(.int .u64 1)] 1 .unk)])],(.int .i64 1)),
 (283,[(.int .u64 2),(.int .u64 1)],(.int .i64 1)),
 (299,[(asciiV "1000000"),(asciiV "/")],(.int .i64 (-1))),
 (275,[(asciiV "1000000"),(asciiV "-")],(.tup [(asciiV "1000000"),(.bool false)])),
 (244,[(asciiV "1000000")],(.bool true)),
 (277,[(asciiV "1000000"),(.int .i64 10),(.int .i64 64)],(.tup [(.int .u64 1000000),.nilif])),
 (251,[(.agg [(.bool false),(.row [(.int .u64 1000000)] 1 .unk),(.row [(.int .u64 1)] 1 .unk)])],(.int .i64 1)),
 (283,[(.int .u64 2),(.int .u64 1000000)],(.int .i64 (-1))),
 (120,[a28],a28),
 (122,[a18,(asciiV "colour")],(.tup [(.int .i64 1),(.bool true)])),
 (122,[a17,(asciiV "colour")],(.tup [(.int .i64 1),(.bool true)])),
 (58,[a14,(.row [(.int .i64 2),a1,(.int .i64 1),a2] 2 .full)],(.bool true)),
 (122,[a16,(asciiV "age")],(.tup [(.int .i64 0),(.bool true)])),
 (58,[a21,(.row [(.int .i64 1),a3,(.int .i64 2),a4,(.int .i64 1),a5] 3 .full)],(.bool true)),
 (58,[a9,(.row [(.int .i64 1),(.row [(.int .i64 30),(.int .i64 0)] 2 .unk),(.int .i64 2),(.row [(.int .i64 31),(.int .i64 1)] 2 .unk)] 2 .full)],(.bool true)),
 (195,[.nilsl],(.tup [(.int .i64 0),(.int .i64 (-1)),(.int .i64 (-1))])),
 (97,[.nilsl,(asciiV "people")],(.tup [(.int .i64 0),(.bool false)])),
 (122,[a27,(asciiV "")],(.tup [(.int .i64 0),(.bool false)]))]
theorem jyY:∀p∈t1,jbF envS p.1 p.2.1 p.2.2:=jbt jck (S0:=s0) jwg (k:=1000) (by kernel_rfl)
def s1:RTab:=s0++(t1)
theorem jwh:∀p∈s1,jbF envS p.1 p.2.1 p.2.2:=jcD jwg (jyY)
def t2:RTab:=[(284,[a31,(asciiV "people")],(.tup [(.int .i64 25),(.bool false)])),
 (284,[a31,(asciiV "age")],(.tup [(.int .i64 1),(.bool false)])),
 (284,[a31,(asciiV "colour")],(.tup [(.int .i64 6),(.bool false)])),
 (284,[a31,(asciiV "red")],(.tup [(.int .i64 27),(.bool false)])),
 (284,[a31,(asciiV "green")],(.tup [(.int .i64 11),(.bool false)])),
 (284,[a31,(asciiV "places")],(.tup [(.int .i64 25),(.bool false)])),
 (284,[a31,(asciiV "place")],(.tup [(.int .i64 25),(.bool false)])),
 (166,[a11,(asciiV "colour")],a8),
 (166,[a12,(asciiV "colour")],a8),
 (166,[a23,(asciiV "age")],a6),
 (166,[a23,(asciiV "place")],(.tup [(.agg [(asciiV "place"),(.int .i64 0),(.int .i64 9),.nilsl]),(.bool true)])),
 (274,[(asciiV "2"),(asciiV "/")],(.tup [(asciiV "2"),(asciiV ""),(.bool false)])),
 (243,[(asciiV "2")],(.tup [(.bool false),(asciiV "2"),(.bool true)])),
 (274,[(asciiV "1"),(asciiV "/")],(.tup [(asciiV "1"),(asciiV ""),(.bool false)])),
 (243,[(asciiV "1")],(.tup [(.bool false),(asciiV "1"),(.bool true)])),
 (253,[(.row [(.int .u64 2),(.int .u64 0)] 1 .unk),(.row [(.int .u64 1),(.int .u64 0)] 1 .unk)],(.int .i64 1)),
 (274,[(asciiV "1000000"),(asciiV "/")],(.tup [(asciiV "1000000"),(asciiV ""),(.bool false)])),
 (243,[(asciiV "1000000")],(.tup [(.bool false),(asciiV "1000000"),(.bool true)])),
 (253,[(.row [(.int .u64 2),(.int .u64 0)] 1 .unk),(.row [(.int .u64 1000000),(.int .u64 0)] 1 .unk)],(.int .i64 (-1))),
 (166,[a11,(asciiV "age")],a6),
 (17,[a22,.nilsl],(.tup [(.int .i64 7),(asciiV "table")]))]
theorem jyZ:∀p∈t2,jbF envS p.1 p.2.1 p.2.2:=jbt jck (S0:=s1) jwh (k:=1000) (by kernel_rfl)
def s2:RTab:=s1++(t2)
theorem jwi:∀p∈s2,jbF envS p.1 p.2.1 p.2.2:=jcD jwh (jyZ)
def t3:RTab:=[(257,[(asciiV "people")],(.bool true)),
 (257,[(asciiV "age")],(.bool true)),
 (257,[(asciiV "colour")],(.bool true)),
 (257,[(asciiV "red")],(.bool true)),
 (257,[(asciiV "green")],(.bool true)),
 (257,[(asciiV "places")],(.bool true)),
 (257,[(asciiV "place")],(.bool true)),
 (155,[a10,(.int .i64 0),a23],(.int .i64 0)),
 (155,[(.row [(.int .i64 2),(.int .i64 0),(asciiV "place")] 1 .full),(.int .i64 0),a23],(.int .i64 0)),
 (242,[(asciiV "2"),(asciiV "/")],(.tup [(asciiV "2"),(asciiV ""),(.bool false)])),
 (242,[(asciiV "1"),(asciiV "/")],(.tup [(asciiV "1"),(asciiV ""),(.bool false)])),
 (242,[(asciiV "1000000"),(asciiV "/")],(.tup [(asciiV "1000000"),(asciiV ""),(.bool false)])),
 (155,[(.row [(.int .i64 2),(.int .i64 0),(asciiV "age")] 1 .full),(.int .i64 0),a11],(.int .i64 0)),
 (118,[.nilsl,a22],(.bool false))]
theorem jy0:∀p∈t3,jbF envS p.1 p.2.1 p.2.2:=jbt jck (S0:=s2) jwi (k:=1000) (by kernel_rfl)
def s3:RTab:=s2++(t3)
theorem jwj:∀p∈s3,jbF envS p.1 p.2.1 p.2.2:=jcD jwi (jy0)
def t4:RTab:=[(238,[a11,(.int .i64 0)],(.int .i64 0)),
 (297,[(asciiV "red")],(.bool false)),
 (297,[(asciiV "green")],(.bool false)),
 (238,[a12,(.int .i64 0)],(.int .i64 0)),
 (75,[a10,a23,(.bool true)],(.int .i64 0)),
 (75,[(.row [(.int .i64 2),(.int .i64 0),(asciiV "place")] 1 .full),a23,(.bool false)],(.int .i64 0)),
 (169,[(asciiV "2")],(.int .i64 0)),
 (170,[(asciiV "2"),(asciiV "1")],(.tup [(.int .i64 1),(.int .i64 0)])),
 (170,[(asciiV "2"),(asciiV "1000000")],(.tup [(.int .i64 (-1)),(.int .i64 0)])),
 (238,[(.row [(asciiV "age"),(.int .i64 0),(.int .i64 120),.nilsl] 1 .full),(.int .i64 0)],(.int .i64 0)),
 (238,[(.row [(asciiV "place"),(.int .i64 0),(.int .i64 9),.nilsl] 1 .full),(.int .i64 0)],(.int .i64 0)),
 (75,[(.row [(.int .i64 2),(.int .i64 0),(asciiV "age")] 1 .full),a11,(.bool false)],(.int .i64 0)),
 (41,[.nilsl,a22],.nilsl)]
theorem jy1:∀p∈t4,jbF envS p.1 p.2.1 p.2.2:=jbt jck (S0:=s3) jwj (k:=1000) (by kernel_rfl)
def s4:RTab:=s3++(t4)
theorem jwk:∀p∈s4,jbF envS p.1 p.2.1 p.2.2:=jcD jwj (jy1)
def t5:RTab:=[(325,[(.row [(asciiV "red"),(asciiV "green")] 2 .unk),(.func 297 [] [])],(.int .i64 (-1))),
 (208,[(.agg [(asciiV "age"),(.int .i64 0),(.int .i64 120),.nilsl])],(.bool true)),
 (208,[(.agg [(asciiV "place"),(.int .i64 0),(.int .i64 9),.nilsl])],(.bool true))]
theorem jy2:∀p∈t5,jbF envS p.1 p.2.1 p.2.2:=jbt jck (S0:=s4) jwk (k:=1000) (by kernel_rfl)
def s5:RTab:=s4++(t5)
theorem jwl:∀p∈s5,jbF envS p.1 p.2.1 p.2.2:=jcD jwk (jy2)
def t6:RTab:=[(296,[(.row [(asciiV "red"),(asciiV "green")] 2 .unk),(.func 297 [] [])],(.bool false)),
 (133,[(.agg [(asciiV "age"),(.int .i64 0),(.int .i64 120),.nilsl])],(.int .i64 121)),
 (133,[(.agg [(asciiV "place"),(.int .i64 0),(.int .i64 9),.nilsl])],(.int .i64 10))]
theorem jy3:∀p∈t6,jbF envS p.1 p.2.1 p.2.2:=jbt jck (S0:=s5) jwl (k:=1000) (by kernel_rfl)
def s6:RTab:=s5++(t6)
theorem jwm:∀p∈s6,jbF envS p.1 p.2.1 p.2.2:=jcD jwl (jy3)
def t7:RTab:=[(270,[a7],(.int .i64 0))]
theorem jy4:∀p∈t7,jbF envS p.1 p.2.1 p.2.2:=jbt jck (S0:=s6) jwm (k:=1000) (by kernel_rfl)
def s7:RTab:=s6++(t7)
theorem jwn:∀p∈s7,jbF envS p.1 p.2.1 p.2.2:=jcD jwm (jy4)
def t8:RTab:=[(238,[a11,(.int .i64 1)],(.int .i64 0)),
 (238,[a12,(.int .i64 1)],(.int .i64 0)),
 (238,[(.row [(asciiV "colour"),(.int .i64 0),(.int .i64 1),(.row [(asciiV "red"),(asciiV "green")] 2 .unk)] 1 .full),(.int .i64 0)],(.int .i64 0))]
theorem jy5:∀p∈t8,jbF envS p.1 p.2.1 p.2.2:=jbt jck (S0:=s7) jwn (k:=1000) (by kernel_rfl)
def s8:RTab:=s7++(t8)
theorem jwo:∀p∈s8,jbF envS p.1 p.2.1 p.2.2:=jcD jwn (jy5)
def t9:RTab:=[(171,[a18],(.tup [(.int .i64 0),(.int .i64 (-1))])),
 (171,[a17],(.tup [(.int .i64 0),(.int .i64 (-1))])),
 (208,[a7],(.bool true))]
theorem jy6:∀p∈t9,jbF envS p.1 p.2.1 p.2.2:=jbt jck (S0:=s8) jwo (k:=1000) (by kernel_rfl)
def s9:RTab:=s8++(t9)
theorem jwp:∀p∈s9,jbF envS p.1 p.2.1 p.2.2:=jcD jwo (jy6)
def t10:RTab:=[(96,[a29],(.tup [(.int .i64 0),(.int .i64 (-1)),(.int .i64 (-1))])),
 (236,[a28],(.tup [(.int .i64 0),(.int .i64 (-1))])),
 (236,[(.agg [(asciiV "places"),(.bool true),(.int .i64 0),a12,a13])],(.tup [(.int .i64 0),(.int .i64 (-1))])),
 (133,[a7],(.int .i64 2))]
theorem jwq:∀p∈t10,jbF envS p.1 p.2.1 p.2.2:=jbt jck (S0:=s9) jwp (k:=1000) (by kernel_rfl)
def s10:RTab:=s9++(t10)
theorem jrP:∀p∈s10,jbF envS p.1 p.2.1 p.2.2:=jcD jwp (jwq)
def t11:RTab:=[(195,[a32],(.tup [(.int .i64 0),(.int .i64 (-1)),(.int .i64 (-1))])),
 (17,[a30,a29],(.tup [(.int .i64 0),(asciiV "")])),
 (26,[a30,a29],a23),
 (126,[a10,a23,a0],(.bool false)),
 (126,[a10,a23,a1],(.bool true)),
 (126,[a10,a23,a2],(.bool true)),
 (116,[(.row [(.int .i64 2),(.int .i64 0),(asciiV "place")] 1 .full),a23,a1],(.int .i64 5)),
 (116,[(.row [(.int .i64 2),(.int .i64 0),(asciiV "place")] 1 .full),a23,a2],(.int .i64 5)),
 (26,[a25,a29],a11),
 (17,[a25,a29],(.tup [(.int .i64 0),(asciiV "")])),
 (116,[(.row [(.int .i64 2),(.int .i64 0),(asciiV "age")] 1 .full),a11,(.row [(.int .i64 30),(.int .i64 0)] 2 .unk)],(.int .i64 30)),
 (116,[(.row [(.int .i64 2),(.int .i64 0),(asciiV "age")] 1 .full),a11,(.row [(.int .i64 31),(.int .i64 1)] 2 .unk)],(.int .i64 31)),
 (116,[(.row [(.int .i64 2),(.int .i64 0),(asciiV "age")] 1 .full),a11,(.row [(.int .i64 32),(.int .i64 1)] 2 .unk)],(.int .i64 32))]
theorem jwr:∀p∈t11,jbF envS p.1 p.2.1 p.2.2:=jbt jck (S0:=s10) jrP (k:=1000) (by kernel_rfl)
def t12:RTab:=[(17,[a22,a29],(.tup [(.int .i64 0),(asciiV "")])),
 (17,[a19,a29],(.tup [(.int .i64 0),(asciiV "")])),
 (17,[a20,a29],(.tup [(.int .i64 0),(asciiV "")])),
 (26,[a20,a29],a11),
 (26,[a22,a29],a24)]
theorem jws:∀p∈t12,jbF envS p.1 p.2.1 p.2.2:=jbt jck (S0:=s10) jrP (k:=1000) (by kernel_rfl)
def s11:RTab:=s10++(t11++(t12))
theorem jtl:∀p∈s11,jbF envS p.1 p.2.1 p.2.2:=jcD jrP (jcD jwr (jws))
def t13:RTab:=[(118,[a32,a30],(.bool true)),
 (118,[a32,a25],(.bool true)),
 (118,[a32,a22],(.bool true)),
 (118,[a32,a19],(.bool true)),
 (118,[a32,a20],(.bool true))]
theorem jwt:∀p∈t13,jbF envS p.1 p.2.1 p.2.2:=jbt jck (S0:=s11) jtl (k:=1000) (by kernel_rfl)
def s12:RTab:=s11++(t13)
theorem jtm:∀p∈s12,jbF envS p.1 p.2.1 p.2.2:=jcD jtl (jwt)
def t14:RTab:=[(41,[a32,a30],a14),
 (41,[a32,a25],a15),
 (41,[a32,a22],a21),
 (41,[a32,a19],a9),
 (41,[a32,a20],a15)]
theorem jwu:∀p∈t14,jbF envS p.1 p.2.1 p.2.2:=jbt jck (S0:=s12) jtm (k:=1000) (by kernel_rfl)
def s13:RTab:=s12++(t14)
theorem jtn:∀p∈s13,jbF envS p.1 p.2.1 p.2.2:=jcD jtm (jwu)
def t15:RTab:=[(37,[a32,a30],(.row [(.int .i64 5),(.int .i64 5)] 2 .unk)),
 (37,[a32,a25],(.row [(.int .i64 30),(.int .i64 31),(.int .i64 31)] 3 .unk)),
 (43,[a32,a20],(.row [(.int .i64 1),(.int .i64 2)] 2 .unk)),
 (43,[a32,a22],.nilsl)]
theorem jwv:∀p∈t15,jbF envS p.1 p.2.1 p.2.2:=jbt jck (S0:=s13) jtn (k:=1000) (by kernel_rfl)
def s14:RTab:=s13++(t15)
theorem jto:∀p∈s14,jbF envS p.1 p.2.1 p.2.2:=jcD jtn (jwv)
def t16:RTab:=[(45,[a32,a25],(.row [(.int .i64 30),(.int .i64 62)] 2 .unk)),
 (55,[],(.bool true))]
theorem jww:∀p∈t16,jbF envS p.1 p.2.1 p.2.2:=jbt jck (S0:=s14) jto (k:=1000) (by kernel_rfl)
def s15:RTab:=s14++(t16)
theorem jwx:∀p∈s15,jbF envS p.1 p.2.1 p.2.2:=jcD jto (jww)
def t17:RTab:=[(64,[],(.bool true))]
theorem jwy:∀p∈t17,jbF envS p.1 p.2.1 p.2.2:=jbt jck (S0:=s15) jwx (k:=1000) (by kernel_rfl)
theorem known_row:jbF envS 64 [] (.bool true):=jwy (64,[],.bool true) (by simp[t17])
end Go.Proofs.YtajaampgajieeaaGreatDoor.r64
