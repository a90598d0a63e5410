/- Proved here: factors by runs, and that the law's examples hold. Conditions: those of each theorem; no statement of the seat is proved in this text. -/
import Derived.Test.YtajaampgajieeaaGreatDoorEnvT
set_option linter.unusedSimpArgs false
namespace Go.Proofs.YtajaampgajieeaaGreatDoor.F
open Go.Ab
set_option maxHeartbeats 4000000
set_option maxRecDepth 1000000
theorem ck_0 (σ:S):jah env (ev env) 169 [.str [50]] σ=some (.int .i64 0,σ):=jbb rfl rfl rfl (k:=80) (by rw [← jb1]; kernel_rfl) σ
theorem lo_0 (σ:S):jah env (ev env) 170 [.str [50],.str [49]] σ=some (.tup [.int .i64 1,.int .i64 0],σ):=jbb rfl rfl rfl (k:=80) (by rw [← jb1]; kernel_rfl) σ
theorem hi_0 (σ:S):jah env (ev env) 170 [.str [50],.str [49,48,48,48,48,48,48]] σ=some (.tup [.int .i64 (-1),.int .i64 0],σ):=jbb rfl rfl rfl (k:=80) (by rw [← jb1]; kernel_rfl) σ
theorem ck_1 (σ:S):jah env (ev env) 169 [.str [51,47,50]] σ=some (.int .i64 0,σ):=jbb rfl rfl rfl (k:=80) (by rw [← jb1]; kernel_rfl) σ
theorem lo_1 (σ:S):jah env (ev env) 170 [.str [51,47,50],.str [49]] σ=some (.tup [.int .i64 1,.int .i64 0],σ):=jbb rfl rfl rfl (k:=80) (by rw [← jb1]; kernel_rfl) σ
theorem hi_1 (σ:S):jah env (ev env) 170 [.str [51,47,50],.str [49,48,48,48,48,48,48]] σ=some (.tup [.int .i64 (-1),.int .i64 0],σ):=jbb rfl rfl rfl (k:=80) (by rw [← jb1]; kernel_rfl) σ
theorem ck_2 (σ:S):jah env (ev env) 169 [.str [49,49,47,49,48]] σ=some (.int .i64 0,σ):=jbb rfl rfl rfl (k:=80) (by rw [← jb1]; kernel_rfl) σ
theorem lo_2 (σ:S):jah env (ev env) 170 [.str [49,49,47,49,48],.str [49]] σ=some (.tup [.int .i64 1,.int .i64 0],σ):=jbb rfl rfl rfl (k:=80) (by rw [← jb1]; kernel_rfl) σ
theorem hi_2 (σ:S):jah env (ev env) 170 [.str [49,49,47,49,48],.str [49,48,48,48,48,48,48]] σ=some (.tup [.int .i64 (-1),.int .i64 0],σ):=jbb rfl rfl rfl (k:=80) (by rw [← jb1]; kernel_rfl) σ
theorem ck_3 (σ:S):jah env (ev env) 169 [.str [51]] σ=some (.int .i64 0,σ):=jbb rfl rfl rfl (k:=80) (by rw [← jb1]; kernel_rfl) σ
theorem lo_3 (σ:S):jah env (ev env) 170 [.str [51],.str [49]] σ=some (.tup [.int .i64 1,.int .i64 0],σ):=jbb rfl rfl rfl (k:=80) (by rw [← jb1]; kernel_rfl) σ
theorem hi_3 (σ:S):jah env (ev env) 170 [.str [51],.str [49,48,48,48,48,48,48]] σ=some (.tup [.int .i64 (-1),.int .i64 0],σ):=jbb rfl rfl rfl (k:=80) (by rw [← jb1]; kernel_rfl) σ
theorem ck_4 (σ:S):jah env (ev env) 169 [.str [49,48,49,47,49,48,48]] σ=some (.int .i64 0,σ):=jbb rfl rfl rfl (k:=80) (by rw [← jb1]; kernel_rfl) σ
theorem lo_4 (σ:S):jah env (ev env) 170 [.str [49,48,49,47,49,48,48],.str [49]] σ=some (.tup [.int .i64 1,.int .i64 0],σ):=jbb rfl rfl rfl (k:=80) (by rw [← jb1]; kernel_rfl) σ
theorem hi_4 (σ:S):jah env (ev env) 170 [.str [49,48,49,47,49,48,48],.str [49,48,48,48,48,48,48]] σ=some (.tup [.int .i64 (-1),.int .i64 0],σ):=jbb rfl rfl rfl (k:=80) (by rw [← jb1]; kernel_rfl) σ
end Go.Proofs.YtajaampgajieeaaGreatDoor.F
namespace Go.Proofs.YtajaampgajieeaaGreatDoor
open Go.Ab
def jva:List Nat:=[46,23,75,177,154,155,225,226,217,166,134,264,20,241,122,143,133,234,208,257,238,284,270,316,317,296,297,298,341,325,14,15,98,72,76,73,19,74,17,96,171,172,167,168,169,170,242,243,244,246,247,251,252,253,274,275,276,277,279,280,281,283,299,300,301,302,308,313,315,326,328]
noncomputable def envR:Env:={ P:=Tryz.prog,pure:=fun f=>memN f jva,mutb:=fun f _=>memN f [157,252,278,279,310,311,312],gl:=glV,hook:=F.hookF,rowB:=true }
set_option maxHeartbeats 4000000
set_option maxRecDepth 1000000
theorem jcq:envR.Ok:={ mixed:=F.env_ok.mixed,glc:=F.env_ok.glc,hook:=F.env_ok.hook }
end Go.Proofs.YtajaampgajieeaaGreatDoor
namespace Go.Proofs.YtajaampgajieeaaGreatDoor.r14
open Go.Ab
set_option linter.unusedVariables false
set_option linter.unusedSectionVars false
set_option maxHeartbeats 4000000
set_option maxRecDepth 100000
def a0:V:=(.agg [(asciiV "colour"),(.int .i64 0),(.int .i64 1),(.row [(asciiV "red"),(asciiV "green")] 2 .unk)])
def a1:V:=(.tup [a0,(.bool true)])
def a2:V:=(.row [(.int .i64 2),(.int .i64 0),(asciiV "age"),(.int .i64 1),(.int .i64 1),(asciiV ""),(.int .i64 11),(.int .i64 0),(asciiV "")] 3 .full)
def a3:V:=(.row [(.int .i64 2),(.int .i64 0),(asciiV "age"),(.int .i64 3),(.int .i64 0),(asciiV "red"),(.int .i64 9),(.int .i64 0),(asciiV "")] 3 .unk)
def a4:V:=(.row [(.int .i64 2),(.int .i64 0),(asciiV "colour"),(.int .i64 3),(.int .i64 0),(asciiV "red"),(.int .i64 9),(.int .i64 0),(asciiV "")] 3 .unk)
def a5:V:=(.row [(.int .i64 2),(.int .i64 0),(asciiV "colour"),(.int .i64 3),(.int .i64 0),(asciiV "blue"),(.int .i64 9),(.int .i64 0),(asciiV "")] 3 .unk)
def a6:V:=(.row [(asciiV "age"),(.int .i64 0),(.int .i64 120),.nilsl,(asciiV "colour"),(.int .i64 0),(.int .i64 1),(.row [(asciiV "red"),(asciiV "green")] 2 .unk)] 2 .unk)
def a7:V:=(.row [(asciiV "place"),(.int .i64 0),(.int .i64 9),.nilsl,(asciiV "colour"),(.int .i64 0),(.int .i64 1),(.row [(asciiV "red"),(asciiV "green")] 2 .unk)] 2 .unk)
def a8:V:=(.agg [(asciiV ""),(.bool false),(.int .i64 0),a6])
def a9:V:=(.agg [(.int .i64 1),.nilsl,(.int .i64 0),(.int .i64 0),(.int .i64 0),(.int .i64 0),(asciiV ""),(.int .i64 0),.nilsl,(.int .i64 0),(.bool false),(asciiV "places"),(.int .i64 0),(asciiV ""),(asciiV ""),(asciiV ""),(.int .i64 0),.nilsl,(asciiV "2"),(.int .i64 8)])
def a10:V:=(.agg [(.int .i64 1),.nilsl,(.int .i64 0),(.int .i64 0),(.int .i64 0),(.int .i64 0),(asciiV ""),(.int .i64 0),.nilsl,(.int .i64 0),(.bool false),(asciiV "places"),(.int .i64 2),(asciiV ""),(asciiV ""),(asciiV ""),(.int .i64 0),.nilsl,(asciiV "2"),(.int .i64 8)])
def a11:V:=(.agg [(.int .i64 1),.nilsl,(.int .i64 0),(.int .i64 0),(.int .i64 0),(.int .i64 0),(asciiV ""),(.int .i64 0),.nilsl,(.int .i64 0),(.bool false),(asciiV "people"),(.int .i64 0),(asciiV ""),(asciiV ""),(asciiV ""),(.int .i64 0),.nilsl,(asciiV "1"),(.int .i64 8)])
def a12:V:=(.agg [(.int .i64 1),.nilsl,(.int .i64 0),(.int .i64 0),(.int .i64 0),(.int .i64 0),(asciiV ""),(.int .i64 0),.nilsl,(.int .i64 0),(.bool false),(asciiV "animals"),(.int .i64 0),(asciiV ""),(asciiV ""),(asciiV ""),(.int .i64 0),.nilsl,(asciiV "2"),(.int .i64 8)])
def a13:V:=(.agg [(.int .i64 1),.nilsl,(.int .i64 0),(.int .i64 0),(.int .i64 0),(.int .i64 0),(asciiV ""),(.int .i64 0),.nilsl,(.int .i64 0),(.bool false),(asciiV "people"),(.int .i64 0),(asciiV ""),(asciiV ""),(asciiV ""),(.int .i64 0),.nilsl,(asciiV "2"),(.int .i64 257)])
def a14:V:=(.agg [(.int .i64 3),.nilsl,(.int .i64 0),(.int .i64 0),(.int .i64 0),(.int .i64 0),(asciiV "age"),(.int .i64 0),.nilsl,(.int .i64 0),(.bool false),(asciiV "people"),(.int .i64 0),(asciiV ""),(asciiV ""),(asciiV ""),(.int .i64 0),.nilsl,(asciiV "2"),(.int .i64 8)])
def a15:V:=(.agg [(.int .i64 1),.nilsl,(.int .i64 0),(.int .i64 0),(.int .i64 0),(.int .i64 0),(asciiV ""),(.int .i64 0),.nilsl,(.int .i64 0),(.bool false),(asciiV "people"),(.int .i64 0),(asciiV ""),(asciiV ""),(asciiV ""),(.int .i64 0),.nilsl,(asciiV "1000001"),(.int .i64 8)])
def a16:V:=(.agg [(.int .i64 1),.nilsl,(.int .i64 0),(.int .i64 0),(.int .i64 0),(.int .i64 0),(asciiV ""),(.int .i64 0),.nilsl,(.int .i64 0),(.bool false),(asciiV "places"),(.int .i64 0),(asciiV "people"),(asciiV "colour"),(asciiV "colour"),(.int .i64 1),.nilsl,(asciiV "2"),(.int .i64 8)])
def a17:V:=(.agg [(.int .i64 3),.nilsl,(.int .i64 0),(.int .i64 0),(.int .i64 0),(.int .i64 0),(asciiV "colour"),(.int .i64 0),.nilsl,(.int .i64 0),(.bool false),(asciiV "people"),(.int .i64 0),(asciiV "places"),(asciiV "age"),(asciiV "colour"),(.int .i64 2),.nilsl,(asciiV "2"),(.int .i64 8)])
def a18:V:=(.agg [(.int .i64 3),.nilsl,(.int .i64 0),(.int .i64 0),(.int .i64 0),(.int .i64 0),(asciiV "colour"),(.int .i64 0),.nilsl,(.int .i64 0),(.bool false),(asciiV "people"),(.int .i64 0),(asciiV "places"),(asciiV "colour"),(asciiV "colour"),(.int .i64 2),.nilsl,(asciiV "2"),(.int .i64 8)])
def a19:V:=(.row [(asciiV "age"),(.int .i64 0),(.int .i64 120),.nilsl,(asciiV "colour"),(.int .i64 0),(.int .i64 1),(.row [(asciiV "red"),(asciiV "green")] 2 .unk),(asciiV "place"),(.int .i64 0),(.int .i64 9),.nilsl,(asciiV "colour"),(.int .i64 0),(.int .i64 1),(.row [(asciiV "red"),(asciiV "green")] 2 .unk)] 4 .unk)
def a20:V:=(.agg [(.int .i64 10),.nilsl,(.int .i64 0),(.int .i64 0),(.int .i64 0),(.int .i64 0),(asciiV "colour"),(.int .i64 0),(.row [(.int .i64 0),(.int .i64 2)] 1 .full),(.int .i64 2),(.bool false),(asciiV "people"),(.int .i64 0),(asciiV ""),(asciiV ""),(asciiV ""),(.int .i64 0),.nilsl,(asciiV "2"),(.int .i64 8)])
def a21:V:=(.agg [(.int .i64 2),(.row [(.int .i64 2),(.int .i64 0),(asciiV "age")] 1 .full),(.int .i64 5),(.int .i64 4),(.int .i64 0),(.int .i64 0),(asciiV ""),(.int .i64 0),.nilsl,(.int .i64 0),(.bool false),(asciiV "people"),(.int .i64 0),(asciiV ""),(asciiV ""),(asciiV ""),(.int .i64 0),.nilsl,(asciiV "2"),(.int .i64 8)])
def a22:V:=(.agg [(.int .i64 5),(.row [(.int .i64 2),(.int .i64 0),(asciiV "age")] 1 .full),(.int .i64 0),(.int .i64 64),(.int .i64 1),(.int .i64 2),(asciiV ""),(.int .i64 0),.nilsl,(.int .i64 0),(.bool false),(asciiV "people"),(.int .i64 0),(asciiV ""),(asciiV ""),(asciiV ""),(.int .i64 0),.nilsl,(asciiV "2"),(.int .i64 8)])
def a23:V:=(.agg [(.int .i64 1),.nilsl,(.int .i64 0),(.int .i64 0),(.int .i64 0),(.int .i64 0),(asciiV ""),(.int .i64 0),.nilsl,(.int .i64 0),(.bool false),(asciiV "people"),(.int .i64 0),(asciiV ""),(asciiV ""),(asciiV ""),(.int .i64 0),a4,(asciiV "2"),(.int .i64 8)])
def a24:V:=(.agg [(.int .i64 1),.nilsl,(.int .i64 0),(.int .i64 0),(.int .i64 0),(.int .i64 0),(asciiV ""),(.int .i64 0),.nilsl,(.int .i64 0),(.bool false),(asciiV "people"),(.int .i64 0),(asciiV ""),(asciiV ""),(asciiV ""),(.int .i64 0),a5,(asciiV "2"),(.int .i64 8)])
def a25:V:=(.row [(asciiV "people"),(.bool false),(.int .i64 3),a6,(asciiV "places"),(.bool true),(.int .i64 0),a7] 2 .unk)
def a26:V:=(.row [(asciiV "above"),(asciiV "and"),(asciiV "batch"),(asciiV "between"),(asciiV "bits"),(asciiV "by"),(asciiV "consistent"),(asciiV "count"),(asciiV "else"),(asciiV "factor"),(asciiV "from"),(asciiV "histogram"),(asciiV "identity"),(asciiV "if"),(asciiV "join"),(asciiV "keep"),(asciiV "late"),(asciiV "limit"),(asciiV "mode"),(asciiV "none"),(asciiV "not"),(asciiV "of"),(asciiV "on"),(asciiV "or"),(asciiV "peak"),(asciiV "prefix"),(asciiV "quantile"),(asciiV "running"),(asciiV "sum"),(asciiV "then"),(asciiV "total"),(asciiV "tree"),(asciiV "using"),(asciiV "where"),(asciiV "with")] 35 .full)
def t0:RTab:=[(72,[(.int .i64 1),(asciiV "places")],a9),
 (72,[(.int .i64 2),(asciiV "people")],(.agg [(.int .i64 2),.nilsl,(.int .i64 0),(.int .i64 0),(.int .i64 0),(.int .i64 0),(asciiV ""),(.int .i64 0),.nilsl,(.int .i64 0),(.bool false),(asciiV "people"),(.int .i64 0),(asciiV ""),(asciiV ""),(asciiV ""),(.int .i64 0),.nilsl,(asciiV "2"),(.int .i64 8)])),
 (72,[(.int .i64 1),(asciiV "animals")],a12),
 (74,[],a25),
 (172,[(.int .i64 (-1))],(.tup [(.int .i64 0),(.bool false)])),
 (341,[(asciiV "limit")],(.bool false)),
 (341,[(asciiV "quantile")],(.bool false)),
 (341,[(asciiV "on")],(.bool false)),
 (341,[(asciiV "peak")],(.bool false)),
 (341,[(asciiV "prefix")],(.bool false)),
 (317,[(asciiV "prefix")],(.bool false)),
 (341,[(asciiV "else")],(.bool false)),
 (341,[(asciiV "bits")],(.bool false)),
 (341,[(asciiV "batch")],(.bool false)),
 (341,[(asciiV "and")],(.bool false)),
 (341,[(asciiV "above")],(.bool false)),
 (317,[(asciiV "and")],(.bool false)),
 (341,[(asciiV "consistent")],(.bool false)),
 (341,[(asciiV "by")],(.bool false)),
 (317,[(asciiV "consistent")],(.bool false)),
 (341,[(asciiV "tree")],(.bool false)),
 (341,[(asciiV "then")],(.bool false)),
 (341,[(asciiV "sum")],(.bool false)),
 (341,[(asciiV "running")],(.bool false)),
 (317,[(asciiV "running")],(.bool false)),
 (341,[(asciiV "if")],(.bool false)),
 (341,[(asciiV "histogram")],(.bool false)),
 (341,[(asciiV "from")],(.bool false)),
 (317,[(asciiV "histogram")],(.bool false)),
 (298,[(.row [(asciiV "red"),(asciiV "green")] 2 .unk)],(.bool false)),
 (172,[(.int .i64 1)],(.tup [(.int .i64 1),(.bool true)])),
 (172,[(.int .i64 0)],(.tup [(.int .i64 0),(.bool true)])),
 (154,[],(.agg [.nilsl,(.int .i64 0),.nilsl,(.int .i64 0),.nilsl,(.int .i64 0),.nilsl,(.int .i64 0),(.row [(.int .i64 0),(.int .i64 0)] 2 .unk),(.int .i64 0),(.row [(.int .i64 0),(.int .i64 0)] 2 .unk),(.int .i64 0),(.row [(.int .i64 0),(.int .i64 0)] 2 .unk),(.int .i64 0),(.row [(.int .i64 0)] 1 .unk),(.int .i64 0),(.row [(.int .i64 1),(.int .i64 0),(.int .i64 0)] 3 .unk),(.int .i64 0),(.row [(.int .i64 0),(.int .i64 0)] 2 .unk),(.int .i64 1),(.row [(.int .i64 0),(.int .i64 0)] 2 .unk),(.int .i64 1),(.row [(.int .i64 0),(.int .i64 0)] 2 .unk),(.int .i64 1),(.row [(.int .i64 0),(.int .i64 0)] 2 .unk),(.int .i64 1),(.row [(.int .i64 0),(.int .i64 0)] 2 .unk),(.int .i64 1),(.row [(.int .i64 0),(.int .i64 0)] 2 .unk),(.int .i64 1),(.row [(.int .i64 1),(.int .i64 1)] 2 .unk),(.int .i64 1),(.row [(.int .i64 1),(.int .i64 1)] 2 .unk),(.int .i64 1),(.row [(.int .i64 1)] 1 .unk),(.int .i64 1)])),
 (168,[(.int .i64 5)],(.bool false)),
 (168,[(.int .i64 4)],(.bool false)),
 (72,[(.int .i64 3),(asciiV "people")],(.agg [(.int .i64 3),.nilsl,(.int .i64 0),(.int .i64 0),(.int .i64 0),(.int .i64 0),(asciiV ""),(.int .i64 0),.nilsl,(.int .i64 0),(.bool false),(asciiV "people"),(.int .i64 0),(asciiV ""),(asciiV ""),(asciiV ""),(.int .i64 0),.nilsl,(asciiV "2"),(.int .i64 8)])),
 (167,[(.row [(asciiV "red"),(asciiV "green")] 2 .unk),(.row [(asciiV "red"),(asciiV "green")] 2 .unk)],(.bool true)),
 (326,[(asciiV "2"),(.int .u8 47)],(.int .i64 (-1))),
 (300,[(asciiV "2"),(asciiV "-")],(.tup [(asciiV "2"),(.bool false)])),
 (276,[(asciiV "2"),(asciiV "0123456789")],(asciiV "")),
 (308,[(asciiV "2"),(.int .i64 10),(.int .i64 64)],(.tup [(.int .u64 2),.nilif])),
 (308,[(asciiV "1"),(.int .i64 10),(.int .i64 64)],(.tup [(.int .u64 1),.nilif])),
 (326,[(asciiV "1"),(.int .u8 47)],(.int .i64 (-1))),
 (300,[(asciiV "1"),(asciiV "-")],(.tup [(asciiV "1"),(.bool false)])),
 (276,[(asciiV "1"),(asciiV "0123456789")],(asciiV "")),
 (280,[(.row [(.int .u64 2)] 1 .unk)],(.bool false)),
 (280,[(.row [(.int .u64 1)] 1 .unk)],(.bool false)),
 (252,[(.row [(.int .u64 2)] 1 .unk),(.row [(.int .u64 1)] 1 .unk)],(.row [(.int .u64 2),(.int .u64 0)] 1 .unk)),
 (252,[(.row [(.int .u64 1)] 1 .unk),(.row [(.int .u64 1)] 1 .unk)],(.row [(.int .u64 1),(.int .u64 0)] 1 .unk)),
 (315,[(.int .u64 2)],(.bool false)),
 (315,[(.int .u64 1)],(.bool false)),
 (326,[(asciiV "1000000"),(.int .u8 47)],(.int .i64 (-1))),
 (300,[(asciiV "1000000"),(asciiV "-")],(.tup [(asciiV "1000000"),(.bool false)])),
 (276,[(asciiV "1000000"),(asciiV "0123456789")],(asciiV "")),
 (308,[(asciiV "1000000"),(.int .i64 10),(.int .i64 64)],(.tup [(.int .u64 1000000),.nilif])),
 (280,[(.row [(.int .u64 1000000)] 1 .unk)],(.bool false)),
 (252,[(.row [(.int .u64 1000000)] 1 .unk),(.row [(.int .u64 1)] 1 .unk)],(.row [(.int .u64 1000000),(.int .u64 0)] 1 .unk)),
 (315,[(.int .u64 1000000)],(.bool false)),
 (167,[.nilsl,(.row [(asciiV "red"),(asciiV "green")] 2 .unk)],(.bool false)),
 (72,[(.int .i64 5),(asciiV "people")],(.agg [(.int .i64 5),.nilsl,(.int .i64 0),(.int .i64 0),(.int .i64 0),(.int .i64 0),(asciiV ""),(.int .i64 0),.nilsl,(.int .i64 0),(.bool false),(asciiV "people"),(.int .i64 0),(asciiV ""),(asciiV ""),(asciiV ""),(.int .i64 0),.nilsl,(asciiV "2"),(.int .i64 8)])),
 (72,[(.int .i64 10),(asciiV "people")],(.agg [(.int .i64 10),.nilsl,(.int .i64 0),(.int .i64 0),(.int .i64 0),(.int .i64 0),(asciiV ""),(.int .i64 0),.nilsl,(.int .i64 0),(.bool false),(asciiV "people"),(.int .i64 0),(asciiV ""),(asciiV ""),(asciiV ""),(.int .i64 0),.nilsl,(asciiV "2"),(.int .i64 8)])),
 (168,[(.int .i64 0)],(.bool false)),
 (168,[(.int .i64 64)],(.bool false)),
 (72,[(.int .i64 1),(asciiV "people")],(.agg [(.int .i64 1),.nilsl,(.int .i64 0),(.int .i64 0),(.int .i64 0),(.int .i64 0),(asciiV ""),(.int .i64 0),.nilsl,(.int .i64 0),(.bool false),(asciiV "people"),(.int .i64 0),(asciiV ""),(asciiV ""),(asciiV ""),(.int .i64 0),.nilsl,(asciiV "2"),(.int .i64 8)])),
 (253,[(.row [(.int .u64 1),(.int .u64 0)] 1 .unk),(.row [(.int .u64 1),(.int .u64 0)] 1 .unk)],(.int .i64 0)),
 (326,[(asciiV "1000001"),(.int .u8 47)],(.int .i64 (-1))),
 (300,[(asciiV "1000001"),(asciiV "-")],(.tup [(asciiV "1000001"),(.bool false)])),
 (276,[(asciiV "1000001"),(asciiV "0123456789")],(asciiV "")),
 (308,[(asciiV "1000001"),(.int .i64 10),(.int .i64 64)],(.tup [(.int .u64 1000001),.nilif])),
 (280,[(.row [(.int .u64 1000001)] 1 .unk)],(.bool false)),
 (252,[(.row [(.int .u64 1000001)] 1 .unk),(.row [(.int .u64 1)] 1 .unk)],(.row [(.int .u64 1000001),(.int .u64 0)] 1 .unk)),
 (315,[(.int .u64 1000001)],(.bool false)),
 (155,[a2,(.int .i64 1),a6],(.int .i64 0)),
 (155,[a2,(.int .i64 2),a6],(.int .i64 0)),
 (155,[(.row [(.int .i64 4),(.int .i64 0),(asciiV "")] 1 .full),(.int .i64 0),a6],(.int .i64 0)),
 (76,[(asciiV "age"),(asciiV "red")],a3),
 (76,[(asciiV "colour"),(asciiV "red")],a4),
 (76,[(asciiV "colour"),(asciiV "blue")],a5),
 (234,[(.row [(asciiV "red"),(asciiV "green")] 2 .unk),(asciiV "red")],(.int .i64 0)),
 (155,[a4,(.int .i64 2),a6],(.int .i64 0)),
 (234,[(.row [(asciiV "red"),(asciiV "green")] 2 .unk),(asciiV "blue")],(.int .i64 (-1)))]
theorem jvb:∀ p∈t0,jbI envR p.1 p.2.1 p.2.2:=jbw jcq (S0:=[]) jrs (k:=1000) (by kernel_rfl)
def s0:RTab:=t0
theorem js7:∀ p∈s0,jbI envR p.1 p.2.1 p.2.2:=jvb
def t1:RTab:=[(316,[(asciiV "limit"),(asciiV "people")],(.bool true)),
 (316,[(asciiV "quantile"),(asciiV "people")],(.bool false)),
 (316,[(asciiV "on"),(asciiV "people")],(.bool true)),
 (316,[(asciiV "peak"),(asciiV "people")],(.bool true)),
 (316,[(asciiV "prefix"),(asciiV "people")],(.bool false)),
 (316,[(asciiV "limit"),(asciiV "age")],(.bool false)),
 (316,[(asciiV "else"),(asciiV "age")],(.bool false)),
 (316,[(asciiV "bits"),(asciiV "age")],(.bool false)),
 (316,[(asciiV "batch"),(asciiV "age")],(.bool false)),
 (316,[(asciiV "and"),(asciiV "age")],(.bool false)),
 (316,[(asciiV "above"),(asciiV "age")],(.bool true)),
 (316,[(asciiV "limit"),(asciiV "colour")],(.bool false)),
 (316,[(asciiV "else"),(asciiV "colour")],(.bool false)),
 (316,[(asciiV "bits"),(asciiV "colour")],(.bool true)),
 (316,[(asciiV "consistent"),(asciiV "colour")],(.bool false)),
 (316,[(asciiV "by"),(asciiV "colour")],(.bool true)),
 (316,[(asciiV "limit"),(asciiV "red")],(.bool true)),
 (316,[(asciiV "quantile"),(asciiV "red")],(.bool true)),
 (316,[(asciiV "tree"),(asciiV "red")],(.bool false)),
 (316,[(asciiV "then"),(asciiV "red")],(.bool false)),
 (316,[(asciiV "sum"),(asciiV "red")],(.bool false)),
 (316,[(asciiV "running"),(asciiV "red")],(.bool false)),
 (316,[(asciiV "limit"),(asciiV "green")],(.bool false)),
 (316,[(asciiV "else"),(asciiV "green")],(.bool true)),
 (316,[(asciiV "if"),(asciiV "green")],(.bool false)),
 (316,[(asciiV "histogram"),(asciiV "green")],(.bool false)),
 (316,[(asciiV "from"),(asciiV "green")],(.bool true)),
 (316,[(asciiV "limit"),(asciiV "places")],(.bool true)),
 (316,[(asciiV "quantile"),(asciiV "places")],(.bool false)),
 (316,[(asciiV "on"),(asciiV "places")],(.bool true)),
 (316,[(asciiV "peak"),(asciiV "places")],(.bool true)),
 (316,[(asciiV "prefix"),(asciiV "places")],(.bool false)),
 (316,[(asciiV "limit"),(asciiV "place")],(.bool true)),
 (316,[(asciiV "quantile"),(asciiV "place")],(.bool false)),
 (316,[(asciiV "on"),(asciiV "place")],(.bool true)),
 (316,[(asciiV "peak"),(asciiV "place")],(.bool true)),
 (316,[(asciiV "prefix"),(asciiV "place")],(.bool false)),
 (122,[a8,(asciiV "age")],(.tup [(.int .i64 0),(.bool true)])),
 (122,[a8,(asciiV "colour")],(.tup [(.int .i64 1),(.bool true)])),
 (122,[(.agg [(asciiV ""),(.bool false),(.int .i64 0),a7]),(asciiV "colour")],(.tup [(.int .i64 1),(.bool true)])),
 (122,[(.agg [(asciiV ""),(.bool false),(.int .i64 0),a19]),(asciiV "colour")],(.tup [(.int .i64 1),(.bool true)])),
 (299,[(asciiV "2"),(asciiV "/")],(.int .i64 (-1))),
 (275,[(asciiV "2"),(asciiV "-")],(.tup [(asciiV "2"),(.bool false)])),
 (244,[(asciiV "2")],(.bool true)),
 (277,[(asciiV "2"),(.int .i64 10),(.int .i64 64)],(.tup [(.int .u64 2),.nilif])),
 (277,[(asciiV "1"),(.int .i64 10),(.int .i64 64)],(.tup [(.int .u64 1),.nilif])),
 (299,[(asciiV "1"),(asciiV "/")],(.int .i64 (-1))),
 (275,[(asciiV "1"),(asciiV "-")],(.tup [(asciiV "1"),(.bool false)])),
 (244,[(asciiV "1")],(.bool true)),
 (251,[(.agg [(.bool false),(.row [(.int .u64 2)] 1 .unk),(.row [(.int .u64 1)] 1 .unk)])],(.int .i64 1)),
 (251,[(.agg [(.bool false),(.row [(.int .u64 1)] 1 .unk),(.row [(.int .u64 1)] 1 .unk)])],(.int .i64 1)),
 (283,[(.int .u64 2),(.int .u64 1)],(.int .i64 1)),
 (299,[(asciiV "1000000"),(asciiV "/")],(.int .i64 (-1))),
 (275,[(asciiV "1000000"),(asciiV "-")],(.tup [(asciiV "1000000"),(.bool false)])),
 (244,[(asciiV "1000000")],(.bool true)),
 (277,[(asciiV "1000000"),(.int .i64 10),(.int .i64 64)],(.tup [(.int .u64 1000000),.nilif])),
 (251,[(.agg [(.bool false),(.row [(.int .u64 1000000)] 1 .unk),(.row [(.int .u64 1)] 1 .unk)])],(.int .i64 1)),
 (283,[(.int .u64 2),(.int .u64 1000000)],(.int .i64 (-1))),
 (283,[(.int .u64 1),(.int .u64 1000000)],(.int .i64 (-1))),
 (299,[(asciiV "1000001"),(asciiV "/")],(.int .i64 (-1))),
 (275,[(asciiV "1000001"),(asciiV "-")],(.tup [(asciiV "1000001"),(.bool false)])),
 (244,[(asciiV "1000001")],(.bool true)),
 (277,[(asciiV "1000001"),(.int .i64 10),(.int .i64 64)],(.tup [(.int .u64 1000001),.nilif])),
 (251,[(.agg [(.bool false),(.row [(.int .u64 1000001)] 1 .unk),(.row [(.int .u64 1)] 1 .unk)])],(.int .i64 1)),
 (283,[(.int .u64 1000001),(.int .u64 1)],(.int .i64 1)),
 (283,[(.int .u64 1000001),(.int .u64 1000000)],(.int .i64 1)),
 (75,[(.row [(.int .i64 4),(.int .i64 0),(asciiV "")] 1 .full),a6,(.bool false)],(.int .i64 10)),
 (241,[(.row [(asciiV "red"),(asciiV "green")] 2 .unk),(asciiV "red")],(.bool true)),
 (241,[(.row [(asciiV "red"),(asciiV "green")] 2 .unk),(asciiV "blue")],(.bool false))]
theorem jvc:∀ p∈t1,jbI envR p.1 p.2.1 p.2.2:=jbw jcq (S0:=s0) js7 (k:=1000) (by kernel_rfl)
def s1:RTab:=s0++(t1)
theorem js8:∀ p∈s1,jbI envR p.1 p.2.1 p.2.2:=jcG js7 (jvc)
def t2:RTab:=[(284,[a26,(asciiV "people")],(.tup [(.int .i64 25),(.bool false)])),
 (284,[a26,(asciiV "age")],(.tup [(.int .i64 1),(.bool false)])),
 (284,[a26,(asciiV "colour")],(.tup [(.int .i64 6),(.bool false)])),
 (284,[a26,(asciiV "red")],(.tup [(.int .i64 27),(.bool false)])),
 (284,[a26,(asciiV "green")],(.tup [(.int .i64 11),(.bool false)])),
 (284,[a26,(asciiV "places")],(.tup [(.int .i64 25),(.bool false)])),
 (284,[a26,(asciiV "place")],(.tup [(.int .i64 25),(.bool false)])),
 (166,[a6,(asciiV "age")],(.tup [(.agg [(asciiV "age"),(.int .i64 0),(.int .i64 120),.nilsl]),(.bool true)])),
 (166,[a6,(asciiV "colour")],a1),
 (166,[a7,(asciiV "colour")],a1),
 (166,[a19,(asciiV "colour")],a1),
 (274,[(asciiV "2"),(asciiV "/")],(.tup [(asciiV "2"),(asciiV ""),(.bool false)])),
 (243,[(asciiV "2")],(.tup [(.bool false),(asciiV "2"),(.bool true)])),
 (274,[(asciiV "1"),(asciiV "/")],(.tup [(asciiV "1"),(asciiV ""),(.bool false)])),
 (243,[(asciiV "1")],(.tup [(.bool false),(asciiV "1"),(.bool true)])),
 (253,[(.row [(.int .u64 2),(.int .u64 0)] 1 .unk),(.row [(.int .u64 1),(.int .u64 0)] 1 .unk)],(.int .i64 1)),
 (274,[(asciiV "1000000"),(asciiV "/")],(.tup [(asciiV "1000000"),(asciiV ""),(.bool false)])),
 (243,[(asciiV "1000000")],(.tup [(.bool false),(asciiV "1000000"),(.bool true)])),
 (253,[(.row [(.int .u64 2),(.int .u64 0)] 1 .unk),(.row [(.int .u64 1000000),(.int .u64 0)] 1 .unk)],(.int .i64 (-1))),
 (253,[(.row [(.int .u64 1),(.int .u64 0)] 1 .unk),(.row [(.int .u64 1000000),(.int .u64 0)] 1 .unk)],(.int .i64 (-1))),
 (274,[(asciiV "1000001"),(asciiV "/")],(.tup [(asciiV "1000001"),(asciiV ""),(.bool false)])),
 (243,[(asciiV "1000001")],(.tup [(.bool false),(asciiV "1000001"),(.bool true)])),
 (253,[(.row [(.int .u64 1000001),(.int .u64 0)] 1 .unk),(.row [(.int .u64 1),(.int .u64 0)] 1 .unk)],(.int .i64 1)),
 (253,[(.row [(.int .u64 1000001),(.int .u64 0)] 1 .unk),(.row [(.int .u64 1000000),(.int .u64 0)] 1 .unk)],(.int .i64 1))]
theorem jvd:∀ p∈t2,jbI envR p.1 p.2.1 p.2.2:=jbw jcq (S0:=s1) js8 (k:=1000) (by kernel_rfl)
def s2:RTab:=s1++(t2)
theorem js9:∀ p∈s2,jbI envR p.1 p.2.1 p.2.2:=jcG js8 (jvd)
def t3:RTab:=[(257,[(asciiV "people")],(.bool true)),
 (257,[(asciiV "age")],(.bool true)),
 (257,[(asciiV "colour")],(.bool true)),
 (257,[(asciiV "red")],(.bool true)),
 (257,[(asciiV "green")],(.bool true)),
 (257,[(asciiV "places")],(.bool true)),
 (257,[(asciiV "place")],(.bool true)),
 (155,[(.row [(.int .i64 2),(.int .i64 0),(asciiV "age")] 1 .full),(.int .i64 0),a6],(.int .i64 0)),
 (242,[(asciiV "2"),(asciiV "/")],(.tup [(asciiV "2"),(asciiV ""),(.bool false)])),
 (242,[(asciiV "1"),(asciiV "/")],(.tup [(asciiV "1"),(asciiV ""),(.bool false)])),
 (242,[(asciiV "1000000"),(asciiV "/")],(.tup [(asciiV "1000000"),(asciiV ""),(.bool false)])),
 (242,[(asciiV "1000001"),(asciiV "/")],(.tup [(asciiV "1000001"),(asciiV ""),(.bool false)])),
 (155,[a2,(.int .i64 0),a6],(.int .i64 0)),
 (155,[a3,(.int .i64 0),a6],(.int .i64 0)),
 (217,[a3,(.int .i64 1),a6],(.int .i64 10)),
 (155,[a4,(.int .i64 0),a6],(.int .i64 0)),
 (217,[a4,(.int .i64 1),a6],(.int .i64 0)),
 (155,[a5,(.int .i64 0),a6],(.int .i64 0)),
 (217,[a5,(.int .i64 1),a6],(.int .i64 7))]
theorem jve:∀ p∈t3,jbI envR p.1 p.2.1 p.2.2:=jbw jcq (S0:=s2) js9 (k:=1000) (by kernel_rfl)
def s3:RTab:=s2++(t3)
theorem jta:∀ p∈s3,jbI envR p.1 p.2.1 p.2.2:=jcG js9 (jve)
def t4:RTab:=[(238,[a6,(.int .i64 0)],(.int .i64 0)),
 (297,[(asciiV "red")],(.bool false)),
 (297,[(asciiV "green")],(.bool false)),
 (238,[a7,(.int .i64 0)],(.int .i64 0)),
 (75,[(.row [(.int .i64 2),(.int .i64 0),(asciiV "age")] 1 .full),a6,(.bool false)],(.int .i64 0)),
 (238,[(.row [(asciiV "age"),(.int .i64 0),(.int .i64 120),.nilsl] 1 .full),(.int .i64 0)],(.int .i64 0)),
 (169,[(asciiV "2")],(.int .i64 0)),
 (170,[(asciiV "2"),(asciiV "1")],(.tup [(.int .i64 1),(.int .i64 0)])),
 (170,[(asciiV "2"),(asciiV "1000000")],(.tup [(.int .i64 (-1)),(.int .i64 0)])),
 (169,[(asciiV "1")],(.int .i64 0)),
 (170,[(asciiV "1"),(asciiV "1")],(.tup [(.int .i64 0),(.int .i64 0)])),
 (170,[(asciiV "1"),(asciiV "1000000")],(.tup [(.int .i64 (-1)),(.int .i64 0)])),
 (169,[(asciiV "1000001")],(.int .i64 0)),
 (170,[(asciiV "1000001"),(asciiV "1")],(.tup [(.int .i64 1),(.int .i64 0)])),
 (170,[(asciiV "1000001"),(asciiV "1000000")],(.tup [(.int .i64 1),(.int .i64 0)])),
 (75,[a2,a6,(.bool false)],(.int .i64 10)),
 (75,[a2,a6,(.bool true)],(.int .i64 0)),
 (155,[a3,(.int .i64 1),a6],(.int .i64 10)),
 (155,[a4,(.int .i64 1),a6],(.int .i64 0)),
 (155,[a5,(.int .i64 1),a6],(.int .i64 7))]
theorem jvf:∀ p∈t4,jbI envR p.1 p.2.1 p.2.2:=jbw jcq (S0:=s3) jta (k:=1000) (by kernel_rfl)
def s4:RTab:=s3++(t4)
theorem jtb:∀ p∈s4,jbI envR p.1 p.2.1 p.2.2:=jcG jta (jvf)
def t5:RTab:=[(325,[(.row [(asciiV "red"),(asciiV "green")] 2 .unk),(.func 297 [] [])],(.int .i64 (-1))),
 (208,[(.agg [(asciiV "age"),(.int .i64 0),(.int .i64 120),.nilsl])],(.bool true)),
 (75,[a3,a6,(.bool true)],(.int .i64 10)),
 (75,[a4,a6,(.bool true)],(.int .i64 0)),
 (75,[a5,a6,(.bool true)],(.int .i64 7))]
theorem jvg:∀ p∈t5,jbI envR p.1 p.2.1 p.2.2:=jbw jcq (S0:=s4) jtb (k:=1000) (by kernel_rfl)
def s5:RTab:=s4++(t5)
theorem jtc:∀ p∈s5,jbI envR p.1 p.2.1 p.2.2:=jcG jtb (jvg)
def t6:RTab:=[(296,[(.row [(asciiV "red"),(asciiV "green")] 2 .unk),(.func 297 [] [])],(.bool false)),
 (133,[(.agg [(asciiV "age"),(.int .i64 0),(.int .i64 120),.nilsl])],(.int .i64 121))]
theorem jvh:∀ p∈t6,jbI envR p.1 p.2.1 p.2.2:=jbw jcq (S0:=s5) jtc (k:=1000) (by kernel_rfl)
def s6:RTab:=s5++(t6)
theorem jtd:∀ p∈s6,jbI envR p.1 p.2.1 p.2.2:=jcG jtc (jvh)
def t7:RTab:=[(270,[a0],(.int .i64 0))]
theorem jvi:∀ p∈t7,jbI envR p.1 p.2.1 p.2.2:=jbw jcq (S0:=s6) jtd (k:=1000) (by kernel_rfl)
def s7:RTab:=s6++(t7)
theorem jte:∀ p∈s7,jbI envR p.1 p.2.1 p.2.2:=jcG jtd (jvi)
def t8:RTab:=[(238,[a6,(.int .i64 1)],(.int .i64 0)),
 (238,[a7,(.int .i64 1)],(.int .i64 0)),
 (238,[(.row [(asciiV "colour"),(.int .i64 0),(.int .i64 1),(.row [(asciiV "red"),(asciiV "green")] 2 .unk)] 1 .full),(.int .i64 0)],(.int .i64 0))]
theorem jvj:∀ p∈t8,jbI envR p.1 p.2.1 p.2.2:=jbw jcq (S0:=s7) jte (k:=1000) (by kernel_rfl)
def s8:RTab:=s7++(t8)
theorem jtf:∀ p∈s8,jbI envR p.1 p.2.1 p.2.2:=jcG jte (jvj)
def t9:RTab:=[(171,[(.agg [(asciiV "people"),(.bool false),(.int .i64 3),a6])],(.tup [(.int .i64 0),(.int .i64 (-1))])),
 (171,[(.agg [(asciiV "places"),(.bool true),(.int .i64 0),a7])],(.tup [(.int .i64 0),(.int .i64 (-1))])),
 (208,[a0],(.bool true))]
theorem jvk:∀ p∈t9,jbI envR p.1 p.2.1 p.2.2:=jbw jcq (S0:=s8) jtf (k:=1000) (by kernel_rfl)
def s9:RTab:=s8++(t9)
theorem jtg:∀ p∈s9,jbI envR p.1 p.2.1 p.2.2:=jcG jtf (jvk)
def t10:RTab:=[(96,[a25],(.tup [(.int .i64 0),(.int .i64 (-1)),(.int .i64 (-1))])),
 (133,[a0],(.int .i64 2))]
theorem jth:∀ p∈t10,jbI envR p.1 p.2.1 p.2.2:=jbw jcq (S0:=s9) jtg (k:=1000) (by kernel_rfl)
def s10:RTab:=s9++(t10)
theorem jnh:∀ p∈s10,jbI envR p.1 p.2.1 p.2.2:=jcG jtg (jth)
def t11:RTab:=[(17,[a12,a25],(.tup [(.int .i64 7),(asciiV "table")])),
 (17,[a10,a25],(.tup [(.int .i64 10),(asciiV "keep")])),
 (17,[a21,a25],(.tup [(.int .i64 2),(asciiV "range")])),
 (17,[a14,a25],(.tup [(.int .i64 2),(asciiV "column")])),
 (17,[a18,a25],(.tup [(.int .i64 0),(asciiV "")])),
 (17,[a16,a25],(.tup [(.int .i64 10),(asciiV "join")]))]
theorem jti:∀ p∈t11,jbI envR p.1 p.2.1 p.2.2:=jbw jcq (S0:=s10) jnh (k:=1000) (by kernel_rfl)
def t12:RTab:=[(17,[a17,a25],(.tup [(.int .i64 10),(asciiV "join")])),
 (17,[a22,a25],(.tup [(.int .i64 2),(asciiV "range")])),
 (17,[a20,a25],(.tup [(.int .i64 2),(asciiV "ranges")])),
 (17,[a11,a25],(.tup [(.int .i64 2),(asciiV "factor")])),
 (17,[a15,a25],(.tup [(.int .i64 2),(asciiV "factor")]))]
theorem jtj:∀ p∈t12,jbI envR p.1 p.2.1 p.2.2:=jbw jcq (S0:=s10) jnh (k:=1000) (by kernel_rfl)
def t13:RTab:=[(17,[a13,a25],(.tup [(.int .i64 2),(asciiV "bits")])),
 (17,[a23,a25],(.tup [(.int .i64 0),(asciiV "")])),
 (17,[a24,a25],(.tup [(.int .i64 7),(asciiV "where")])),
 (19,[a23,a25],(.bool true)),
 (19,[a9,a25],(.bool false))]
theorem jtk:∀ p∈t13,jbI envR p.1 p.2.1 p.2.2:=jbw jcq (S0:=s10) jnh (k:=1000) (by kernel_rfl)
def s11:RTab:=s10++(t11++(t12++(t13)))
theorem jq4:∀ p∈s11,jbI envR p.1 p.2.1 p.2.2:=jcG jnh (jcG jti (jcG jtj (jtk)))
def t14:RTab:=[(73,[a12,(.int .i64 7),(asciiV "table")],(.bool true)),
 (73,[a10,(.int .i64 10),(asciiV "keep")],(.bool true)),
 (73,[a21,(.int .i64 2),(asciiV "range")],(.bool true)),
 (73,[a14,(.int .i64 2),(asciiV "column")],(.bool true)),
 (73,[a18,(.int .i64 0),(asciiV "")],(.bool true)),
 (73,[a16,(.int .i64 10),(asciiV "join")],(.bool true)),
 (73,[a17,(.int .i64 10),(asciiV "join")],(.bool true)),
 (73,[a22,(.int .i64 2),(asciiV "range")],(.bool true)),
 (73,[a20,(.int .i64 2),(asciiV "ranges")],(.bool true)),
 (73,[a11,(.int .i64 2),(asciiV "factor")],(.bool true)),
 (73,[a15,(.int .i64 2),(asciiV "factor")],(.bool true)),
 (73,[a13,(.int .i64 2),(asciiV "bits")],(.bool true)),
 (73,[a23,(.int .i64 0),(asciiV "")],(.bool true)),
 (73,[a24,(.int .i64 7),(asciiV "where")],(.bool true))]
theorem jtl:∀ p∈t14,jbI envR p.1 p.2.1 p.2.2:=jbw jcq (S0:=s11) jq4 (k:=1000) (by kernel_rfl)
def s12:RTab:=s11++(t14)
theorem jq5:∀ p∈s12,jbI envR p.1 p.2.1 p.2.2:=jcG jq4 (jtl)
def t15:RTab:=[(23,[],(.bool true))]
theorem jtm:∀ p∈t15,jbI envR p.1 p.2.1 p.2.2:=jbw jcq (S0:=s12) jq5 (k:=1000) (by kernel_rfl)
def s13:RTab:=s12++(t15)
theorem jtn:∀ p∈s13,jbI envR p.1 p.2.1 p.2.2:=jcG jq5 (jtm)
def t16:RTab:=[(14,[],(.bool true))]
theorem jto:∀ p∈t16,jbI envR p.1 p.2.1 p.2.2:=jbw jcq (S0:=s13) jtn (k:=1000) (by kernel_rfl)
theorem known_row:jbI envR 14 [] (.bool true):=jto (14,[],.bool true) (by simp [t16])
end Go.Proofs.YtajaampgajieeaaGreatDoor.r14
