/- Parts of the proof. -/
import Derived.Test.YtabmahknlebhpaaGreatVdQB2
namespace Go.Proofs.YtabmahknlebhpaaGreat
open Go.RowKit
set_option linter.unusedVariables false
set_option maxRecDepth 100000
set_option maxHeartbeats 4000000
theorem Qe336 (g : Gt tab Q_lt) a b : Q_of (Q_B g) (.c336 a b) = Qb336 (Q_of g) a b := by kernel_rfl
theorem Qe337 (g : Gt tab Q_lt) a b c d e f h : Q_of (Q_B g) (.c337 a b c d e f h) = Qb337 (Q_of g) a b c d e f h := by kernel_rfl
theorem Qe338 (g : Gt tab Q_lt) a b c d : Q_of (Q_B g) (.c338 a b c d) = Qb338 (Q_of g) a b c d := by kernel_rfl
theorem Qe339 (g : Gt tab Q_lt) a b c : Q_of (Q_B g) (.c339 a b c) = Qb339 (Q_of g) a b c := by kernel_rfl
theorem Qe340 (g : Gt tab Q_lt) a b c d e : Q_of (Q_B g) (.c340 a b c d e) = Qb340 (Q_of g) a b c d e := by kernel_rfl
theorem Qe341 (g : Gt tab Q_lt) a b c d : Q_of (Q_B g) (.c341 a b c d) = Qb341 (Q_of g) a b c d := by kernel_rfl
theorem Qe342 (g : Gt tab Q_lt) a b c : Q_of (Q_B g) (.c342 a b c) = Qb342 (Q_of g) a b c := by kernel_rfl
theorem Qe343 (g : Gt tab Q_lt) a b c d e : Q_of (Q_B g) (.c343 a b c d e) = Qb343 (Q_of g) a b c d e := by kernel_rfl
theorem Qe344 (g : Gt tab Q_lt) a b c : Q_of (Q_B g) (.c344 a b c) = Qb344 (Q_of g) a b c := by kernel_rfl
theorem Qe345 (g : Gt tab Q_lt) a b : Q_of (Q_B g) (.c345 a b) = Qb345 (Q_of g) a b := by kernel_rfl
theorem Qe346 (g : Gt tab Q_lt) a b : Q_of (Q_B g) (.c346 a b) = Qb346 (Q_of g) a b := by kernel_rfl
theorem Qe347 (g : Gt tab Q_lt) a b : Q_of (Q_B g) (.c347 a b) = Qb347 (Q_of g) a b := by kernel_rfl
theorem Qe348 (g : Gt tab Q_lt) a b c : Q_of (Q_B g) (.c348 a b c) = Qb348 (Q_of g) a b c := by kernel_rfl
theorem Qe349 (g : Gt tab Q_lt) a : Q_of (Q_B g) (.c349 a) = Qb349 (Q_of g) a := by kernel_rfl
theorem Qe350 (g : Gt tab Q_lt) a b c : Q_of (Q_B g) (.c350 a b c) = Qb350 (Q_of g) a b c := by kernel_rfl
theorem Qe351 (g : Gt tab Q_lt) a b c d e f : Q_of (Q_B g) (.c351 a b c d e f) = Qb351 (Q_of g) a b c d e f := by kernel_rfl
theorem Qe352 (g : Gt tab Q_lt) a : Q_of (Q_B g) (.c352 a) = Qb352 (Q_of g) a := by kernel_rfl
theorem Qe353 (g : Gt tab Q_lt) a b c d : Q_of (Q_B g) (.c353 a b c d) = Qb353 (Q_of g) a b c d := by kernel_rfl
theorem Qe354 (g : Gt tab Q_lt)  : Q_of (Q_B g) (.l17_awake) = Qb354 (Q_of g) := by kernel_rfl
theorem Qe355 (g : Gt tab Q_lt) a : Q_of (Q_B g) (.c355 a) = Qb355 (Q_of g) a := by kernel_rfl
theorem Qe356 (g : Gt tab Q_lt) a b : Q_of (Q_B g) (.c356 a b) = Qb356 (Q_of g) a b := by kernel_rfl
theorem Qe357 (g : Gt tab Q_lt)  : Q_of (Q_B g) (.c357) = Qb357 (Q_of g) := by kernel_rfl
theorem Qe358 (g : Gt tab Q_lt) a b c : Q_of (Q_B g) (.c358 a b c) = Qb358 (Q_of g) a b c := by kernel_rfl
theorem Qe359 (g : Gt tab Q_lt) a b c : Q_of (Q_B g) (.c359 a b c) = Qb359 (Q_of g) a b c := by kernel_rfl
theorem Qe360 (g : Gt tab Q_lt) a b : Q_of (Q_B g) (.c360 a b) = Qb360 (Q_of g) a b := by kernel_rfl
theorem Qe361 (g : Gt tab Q_lt) a : Q_of (Q_B g) (.c361 a) = Qb361 (Q_of g) a := by kernel_rfl
theorem Qe362 (g : Gt tab Q_lt) a : Q_of (Q_B g) (.c362 a) = Qb362 (Q_of g) a := by kernel_rfl
theorem Qe363 (g : Gt tab Q_lt) a b c : Q_of (Q_B g) (.c363 a b c) = Qb363 (Q_of g) a b c := by kernel_rfl
theorem Qe364 (g : Gt tab Q_lt) a b : Q_of (Q_B g) (.c364 a b) = Qb364 (Q_of g) a b := by kernel_rfl
theorem Qe365 (g : Gt tab Q_lt) a b c d e f : Q_of (Q_B g) (.c365 a b c d e f) = Qb365 (Q_of g) a b c d e f := by kernel_rfl
theorem Qe366 (g : Gt tab Q_lt) a b c d e f : Q_of (Q_B g) (.c366 a b c d e f) = Qb366 (Q_of g) a b c d e f := by kernel_rfl
theorem Qe367 (g : Gt tab Q_lt) a b c d e f : Q_of (Q_B g) (.c367 a b c d e f) = Qb367 (Q_of g) a b c d e f := by kernel_rfl
theorem Qe368 (g : Gt tab Q_lt) a b c d e : Q_of (Q_B g) (.c368 a b c d e) = Qb368 (Q_of g) a b c d e := by kernel_rfl
theorem Qe369 (g : Gt tab Q_lt) a b : Q_of (Q_B g) (.c369 a b) = Qb369 (Q_of g) a b := by kernel_rfl
theorem Qe370 (g : Gt tab Q_lt) a b c d : Q_of (Q_B g) (.c370 a b c d) = Qb370 (Q_of g) a b c d := by kernel_rfl
theorem Qe371 (g : Gt tab Q_lt) a b c : Q_of (Q_B g) (.c371 a b c) = Qb371 (Q_of g) a b c := by kernel_rfl
theorem Qe372 (g : Gt tab Q_lt) a b c : Q_of (Q_B g) (.c372 a b c) = Qb372 (Q_of g) a b c := by kernel_rfl
theorem Qe373 (g : Gt tab Q_lt) a b : Q_of (Q_B g) (.c373 a b) = Qb373 (Q_of g) a b := by kernel_rfl
theorem Qe374 (g : Gt tab Q_lt) a : Q_of (Q_B g) (.c374 a) = Qb374 (Q_of g) a := by kernel_rfl
theorem Qe375 (g : Gt tab Q_lt) a b c : Q_of (Q_B g) (.c375 a b c) = Qb375 (Q_of g) a b c := by kernel_rfl
theorem Qe376 (g : Gt tab Q_lt) a b : Q_of (Q_B g) (.c376 a b) = Qb376 (Q_of g) a b := by kernel_rfl
theorem Qe377 (g : Gt tab Q_lt) a b c d : Q_of (Q_B g) (.c377 a b c d) = Qb377 (Q_of g) a b c d := by kernel_rfl
theorem Qe378 (g : Gt tab Q_lt) a b c : Q_of (Q_B g) (.c378 a b c) = Qb378 (Q_of g) a b c := by kernel_rfl
theorem Qe379 (g : Gt tab Q_lt) a b c d : Q_of (Q_B g) (.c379 a b c d) = Qb379 (Q_of g) a b c d := by kernel_rfl
theorem Qe380 (g : Gt tab Q_lt) a b c : Q_of (Q_B g) (.c380 a b c) = Qb380 (Q_of g) a b c := by kernel_rfl
theorem Qe381 (g : Gt tab Q_lt) a b c : Q_of (Q_B g) (.c381 a b c) = Qb381 (Q_of g) a b c := by kernel_rfl
theorem Qe382 (g : Gt tab Q_lt) a b c : Q_of (Q_B g) (.c382 a b c) = Qb382 (Q_of g) a b c := by kernel_rfl
theorem Qe383 (g : Gt tab Q_lt) a : Q_of (Q_B g) (.c383 a) = Qb383 (Q_of g) a := by kernel_rfl
theorem Qe384 (g : Gt tab Q_lt) a b : Q_of (Q_B g) (.c384 a b) = Qb384 (Q_of g) a b := by kernel_rfl
theorem Qe385 (g : Gt tab Q_lt) a b : Q_of (Q_B g) (.c385 a b) = Qb385 (Q_of g) a b := by kernel_rfl
theorem Qe386 (g : Gt tab Q_lt)  : Q_of (Q_B g) (.c386) = Qb386 (Q_of g) := by kernel_rfl
theorem Qe387 (g : Gt tab Q_lt) a : Q_of (Q_B g) (.c387 a) = Qb387 (Q_of g) a := by kernel_rfl
theorem Qe388 (g : Gt tab Q_lt) a b : Q_of (Q_B g) (.c388 a b) = Qb388 (Q_of g) a b := by kernel_rfl
theorem Qe389 (g : Gt tab Q_lt) a b c d e : Q_of (Q_B g) (.c389 a b c d e) = Qb389 (Q_of g) a b c d e := by kernel_rfl
theorem Qe390 (g : Gt tab Q_lt) a : Q_of (Q_B g) (.c390 a) = Qb390 (Q_of g) a := by kernel_rfl
theorem Qe391 (g : Gt tab Q_lt) a b : Q_of (Q_B g) (.c391 a b) = Qb391 (Q_of g) a b := by kernel_rfl
theorem Qe392 (g : Gt tab Q_lt) a b : Q_of (Q_B g) (.c392 a b) = Qb392 (Q_of g) a b := by kernel_rfl
theorem Qe393 (g : Gt tab Q_lt)  : Q_of (Q_B g) (.c393) = Qb393 (Q_of g) := by kernel_rfl
theorem Qe394 (g : Gt tab Q_lt) a : Q_of (Q_B g) (.l17_VerifyChecks a) = Qb394 (Q_of g) a := by kernel_rfl
theorem Qe395 (g : Gt tab Q_lt) a b : Q_of (Q_B g) (.l17_VerifyDepths a b) = Qb395 (Q_of g) a b := by kernel_rfl
theorem Qe396 (g : Gt tab Q_lt) a : Q_of (Q_B g) (.c396 a) = Qb396 (Q_of g) a := by kernel_rfl
theorem Qe397 (g : Gt tab Q_lt) a b c : Q_of (Q_B g) (.c397 a b c) = Qb397 (Q_of g) a b c := by kernel_rfl
theorem Qe398 (g : Gt tab Q_lt)  : Q_of (Q_B g) (.c398) = Qb398 (Q_of g) := by kernel_rfl
theorem Qe399 (g : Gt tab Q_lt) a : Q_of (Q_B g) (.l17_source a) = Qb399 (Q_of g) a := by kernel_rfl
theorem Qe400 (g : Gt tab Q_lt) a : Q_of (Q_B g) (.l17_VerifyPrograms a) = Qb400 (Q_of g) a := by kernel_rfl
theorem Qe401 (g : Gt tab Q_lt) a b : Q_of (Q_B g) (.c401 a b) = Qb401 (Q_of g) a b := by kernel_rfl
theorem Qe402 (g : Gt tab Q_lt) a b c d : Q_of (Q_B g) (.c402 a b c d) = Qb402 (Q_of g) a b c d := by kernel_rfl
theorem Qe403 (g : Gt tab Q_lt)  : Q_of (Q_B g) (.c403) = Qb403 (Q_of g) := by kernel_rfl
theorem Qe404 (g : Gt tab Q_lt) a b : Q_of (Q_B g) (.c404 a b) = Qb404 (Q_of g) a b := by kernel_rfl
end Go.Proofs.YtabmahknlebhpaaGreat
