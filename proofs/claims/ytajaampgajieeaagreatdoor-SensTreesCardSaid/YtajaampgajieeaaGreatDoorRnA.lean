/- Proved here: factors by runs. Conditions: each theorem's own. -/
import Derived.Test.YtajaampgajieeaaGreatDoorEnvT
set_option linter.unusedSimpArgs false
set_option maxHeartbeats 16000000
set_option maxRecDepth 1000000
namespace Go.Proofs.YtajaampgajieeaaGreatDoor.F
open Go.Ab
theorem ck_0(U:S):jah env (ev env) 169 [.str [50]] U=some (.int .i64 0,U):=jbd rfl rfl rfl (k:=80) ac U
theorem lo_0(U:S):jah env (ev env) 170 [.str [50],.str [49]] U=some (.tup [.int .i64 1,.int .i64 0],U):=jbd rfl rfl rfl (k:=80) ac U
theorem hi_0(U:S):jah env (ev env) 170 [.str [50],.str [49,48,48,48,48,48,48]] U=some (.tup [.int .i64 (-1),.int .i64 0],U):=jbd rfl rfl rfl (k:=80) ac U
theorem ck_1(U:S):jah env (ev env) 169 [.str [51,47,50]] U=some (.int .i64 0,U):=jbd rfl rfl rfl (k:=80) ac U
theorem lo_1(U:S):jah env (ev env) 170 [.str [51,47,50],.str [49]] U=some (.tup [.int .i64 1,.int .i64 0],U):=jbd rfl rfl rfl (k:=80) ac U
theorem hi_1(U:S):jah env (ev env) 170 [.str [51,47,50],.str [49,48,48,48,48,48,48]] U=some (.tup [.int .i64 (-1),.int .i64 0],U):=jbd rfl rfl rfl (k:=80) ac U
theorem ck_2(U:S):jah env (ev env) 169 [.str [49,49,47,49,48]] U=some (.int .i64 0,U):=jbd rfl rfl rfl (k:=80) ac U
theorem lo_2(U:S):jah env (ev env) 170 [.str [49,49,47,49,48],.str [49]] U=some (.tup [.int .i64 1,.int .i64 0],U):=jbd rfl rfl rfl (k:=80) ac U
theorem hi_2(U:S):jah env (ev env) 170 [.str [49,49,47,49,48],.str [49,48,48,48,48,48,48]] U=some (.tup [.int .i64 (-1),.int .i64 0],U):=jbd rfl rfl rfl (k:=80) ac U
theorem ck_3(U:S):jah env (ev env) 169 [.str [51]] U=some (.int .i64 0,U):=jbd rfl rfl rfl (k:=80) ac U
theorem lo_3(U:S):jah env (ev env) 170 [.str [51],.str [49]] U=some (.tup [.int .i64 1,.int .i64 0],U):=jbd rfl rfl rfl (k:=80) ac U
theorem hi_3(U:S):jah env (ev env) 170 [.str [51],.str [49,48,48,48,48,48,48]] U=some (.tup [.int .i64 (-1),.int .i64 0],U):=jbd rfl rfl rfl (k:=80) ac U
theorem ck_4(U:S):jah env (ev env) 169 [.str [49,48,49,47,49,48,48]] U=some (.int .i64 0,U):=jbd rfl rfl rfl (k:=80) ac U
theorem lo_4(U:S):jah env (ev env) 170 [.str [49,48,49,47,49,48,48],.str [49]] U=some (.tup [.int .i64 1,.int .i64 0],U):=jbd rfl rfl rfl (k:=80) ac U
theorem hi_4(U:S):jah env (ev env) 170 [.str [49,48,49,47,49,48,48],.str [49,48,48,48,48,48,48]] U=some (.tup [.int .i64 (-1),.int .i64 0],U):=jbd rfl rfl rfl (k:=80) ac U
end Go.Proofs.YtajaampgajieeaaGreatDoor.F
