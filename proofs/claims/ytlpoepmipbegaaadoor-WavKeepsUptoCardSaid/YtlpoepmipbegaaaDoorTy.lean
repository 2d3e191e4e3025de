import Derived.Test.YtlpoepmipbegaaaDoorEn
import Derived.Test.YtlpoepmipbegaaaDoorProg
set_option linter.unusedVariables false
set_option maxRecDepth 100000
namespace Go.Proofs.YtlpoepmipbegaaaDoor.Ty
open Go Go.Proofs.YtlpoepmipbegaaaDoor.En
theorem z1 : tyB Go.Proofs.Tryd.prog 1 false 1 = true := by kernel_rfl
theorem i1 : (Go.Proofs.Tryd.prog.info? 1).map (fun i => (i.zero, i.size, i.bytes)) = some (some .nilFunc, 1, 8) := by kernel_rfl
theorem z2 : tyB Go.Proofs.Tryd.prog 2 false 1 = true := by kernel_rfl
theorem i2 : (Go.Proofs.Tryd.prog.info? 2).map (fun i => (i.zero, i.size, i.bytes)) = some (some (.int .i64 0), 1, 8) := by kernel_rfl
theorem z3 : tyB Go.Proofs.Tryd.prog 3 false 1 = true := by kernel_rfl
theorem i3 : (Go.Proofs.Tryd.prog.info? 3).map (fun i => (i.zero, i.size, i.bytes)) = some (some (.int .i64 0), 1, 8) := by kernel_rfl
theorem z4 : tyB Go.Proofs.Tryd.prog 4 false 1 = true := by kernel_rfl
theorem i4 : (Go.Proofs.Tryd.prog.info? 4).map (fun i => (i.zero, i.size, i.bytes)) = some (some (.bool false), 1, 1) := by kernel_rfl
theorem z5 : tyB Go.Proofs.Tryd.prog 5 false 1 = true := by kernel_rfl
theorem i5 : (Go.Proofs.Tryd.prog.info? 5).map (fun i => (i.zero, i.size, i.bytes)) = some (some (.int .u8 0), 1, 1) := by kernel_rfl
theorem z6 : tyB Go.Proofs.Tryd.prog 6 false 1 = true := by kernel_rfl
theorem i6 : (Go.Proofs.Tryd.prog.info? 6).map (fun i => (i.zero, i.size, i.bytes)) = some (some (.int .u8 0), 1, 1) := by kernel_rfl
theorem z7 : tyB Go.Proofs.Tryd.prog 7 true 4 = true := by kernel_rfl
theorem i7 : (Go.Proofs.Tryd.prog.info? 7).map (fun i => (i.zero, i.size, i.bytes)) = some (some (.agg #[(.int .i64 0), (.int .i64 0), (.bool false), (.int .u8 0)]), 4, 24) := by kernel_rfl
theorem p7 : placesB Go.Proofs.Tryd.prog 7 [(0, 1), (1, 1), (2, 1), (3, 1)] = true := by kernel_rfl
theorem q7_0 : fieldB Go.Proofs.Tryd.prog 7 0 0 = true := by kernel_rfl
theorem q7_1 : fieldB Go.Proofs.Tryd.prog 7 1 1 = true := by kernel_rfl
theorem q7_2 : fieldB Go.Proofs.Tryd.prog 7 2 2 = true := by kernel_rfl
theorem q7_3 : fieldB Go.Proofs.Tryd.prog 7 3 3 = true := by kernel_rfl
theorem z8 : tyB Go.Proofs.Tryd.prog 8 true 4 = true := by kernel_rfl
theorem i8 : (Go.Proofs.Tryd.prog.info? 8).map (fun i => (i.zero, i.size, i.bytes)) = some (some (.agg #[(.int .i64 0), (.int .i64 0), (.bool false), (.int .u8 0)]), 4, 24) := by kernel_rfl
theorem p8 : placesB Go.Proofs.Tryd.prog 8 [(0, 1), (1, 1), (2, 1), (3, 1)] = true := by kernel_rfl
theorem q8_0 : fieldB Go.Proofs.Tryd.prog 8 0 0 = true := by kernel_rfl
theorem q8_1 : fieldB Go.Proofs.Tryd.prog 8 1 1 = true := by kernel_rfl
theorem q8_2 : fieldB Go.Proofs.Tryd.prog 8 2 2 = true := by kernel_rfl
theorem q8_3 : fieldB Go.Proofs.Tryd.prog 8 3 3 = true := by kernel_rfl
theorem z9 : tyB Go.Proofs.Tryd.prog 9 false 1 = true := by kernel_rfl
theorem i9 : (Go.Proofs.Tryd.prog.info? 9).map (fun i => (i.zero, i.size, i.bytes)) = some (some (.string ⟨#[]⟩), 1, 16) := by kernel_rfl
theorem z10 : tyB Go.Proofs.Tryd.prog 10 false 1 = true := by kernel_rfl
theorem i10 : (Go.Proofs.Tryd.prog.info? 10).map (fun i => (i.zero, i.size, i.bytes)) = some (some (.string ⟨#[]⟩), 1, 16) := by kernel_rfl
theorem z11 : tyB Go.Proofs.Tryd.prog 11 false 1 = true := by kernel_rfl
theorem i11 : (Go.Proofs.Tryd.prog.info? 11).map (fun i => (i.zero, i.size, i.bytes)) = some (some (.string ⟨#[]⟩), 1, 16) := by kernel_rfl
theorem z12 : tyB Go.Proofs.Tryd.prog 12 false 1 = true := by kernel_rfl
theorem i12 : (Go.Proofs.Tryd.prog.info? 12).map (fun i => (i.zero, i.size, i.bytes)) = some (some (.int .u64 0), 1, 8) := by kernel_rfl
theorem z13 : tyB Go.Proofs.Tryd.prog 13 true 2 = true := by kernel_rfl
theorem i13 : (Go.Proofs.Tryd.prog.info? 13).map (fun i => (i.zero, i.size, i.bytes)) = some (some (.agg #[(.string ⟨#[]⟩), (.int .u64 0)]), 2, 24) := by kernel_rfl
theorem p13 : placesB Go.Proofs.Tryd.prog 13 [(0, 1), (1, 1)] = true := by kernel_rfl
theorem q13_0 : fieldB Go.Proofs.Tryd.prog 13 0 0 = true := by kernel_rfl
theorem q13_1 : fieldB Go.Proofs.Tryd.prog 13 1 1 = true := by kernel_rfl
theorem z14 : tyB Go.Proofs.Tryd.prog 14 true 2 = true := by kernel_rfl
theorem i14 : (Go.Proofs.Tryd.prog.info? 14).map (fun i => (i.zero, i.size, i.bytes)) = some (some (.agg #[(.string ⟨#[]⟩), (.int .u64 0)]), 2, 24) := by kernel_rfl
theorem p14 : placesB Go.Proofs.Tryd.prog 14 [(0, 1), (1, 1)] = true := by kernel_rfl
theorem q14_0 : fieldB Go.Proofs.Tryd.prog 14 0 0 = true := by kernel_rfl
theorem q14_1 : fieldB Go.Proofs.Tryd.prog 14 1 1 = true := by kernel_rfl
theorem z15 : tyB Go.Proofs.Tryd.prog 15 false 1 = true := by kernel_rfl
theorem i15 : (Go.Proofs.Tryd.prog.info? 15).map (fun i => (i.zero, i.size, i.bytes)) = some (some (.pointer none), 1, 8) := by kernel_rfl
theorem z16 : tyB Go.Proofs.Tryd.prog 16 false 1 = true := by kernel_rfl
theorem i16 : (Go.Proofs.Tryd.prog.info? 16).map (fun i => (i.zero, i.size, i.bytes)) = some (some (.pointer none), 1, 8) := by kernel_rfl
theorem z17 : tyB Go.Proofs.Tryd.prog 17 false 1 = true := by kernel_rfl
theorem i17 : (Go.Proofs.Tryd.prog.info? 17).map (fun i => (i.zero, i.size, i.bytes)) = some (some (.pointer none), 1, 8) := by kernel_rfl
theorem z18 : tyB Go.Proofs.Tryd.prog 18 true 1 = true := by kernel_rfl
theorem i18 : (Go.Proofs.Tryd.prog.info? 18).map (fun i => (i.zero, i.size, i.bytes)) = some (some (.agg #[(.pointer none)]), 1, 8) := by kernel_rfl
theorem p18 : placesB Go.Proofs.Tryd.prog 18 [(0, 1)] = true := by kernel_rfl
theorem q18_0 : fieldB Go.Proofs.Tryd.prog 18 0 0 = true := by kernel_rfl
theorem z19 : tyB Go.Proofs.Tryd.prog 19 true 1 = true := by kernel_rfl
theorem i19 : (Go.Proofs.Tryd.prog.info? 19).map (fun i => (i.zero, i.size, i.bytes)) = some (some (.agg #[(.pointer none)]), 1, 8) := by kernel_rfl
theorem p19 : placesB Go.Proofs.Tryd.prog 19 [(0, 1)] = true := by kernel_rfl
theorem q19_0 : fieldB Go.Proofs.Tryd.prog 19 0 0 = true := by kernel_rfl
theorem z20 : tyB Go.Proofs.Tryd.prog 20 false 1 = true := by kernel_rfl
theorem i20 : (Go.Proofs.Tryd.prog.info? 20).map (fun i => (i.zero, i.size, i.bytes)) = some (some .nilIface, 1, 16) := by kernel_rfl
theorem z21 : tyB Go.Proofs.Tryd.prog 21 false 1 = true := by kernel_rfl
theorem i21 : (Go.Proofs.Tryd.prog.info? 21).map (fun i => (i.zero, i.size, i.bytes)) = some (some (.int .i32 0), 1, 4) := by kernel_rfl
theorem z22 : tyB Go.Proofs.Tryd.prog 22 true 3 = true := by kernel_rfl
theorem i22 : (Go.Proofs.Tryd.prog.info? 22).map (fun i => (i.zero, i.size, i.bytes)) = some (some (.agg #[(.int .i64 0), (.int .i64 0), (.int .i64 0)]), 3, 24) := by kernel_rfl
theorem p22 : placesB Go.Proofs.Tryd.prog 22 [(0, 1), (1, 1), (2, 1)] = true := by kernel_rfl
theorem q22_0 : fieldB Go.Proofs.Tryd.prog 22 0 0 = true := by kernel_rfl
theorem q22_1 : fieldB Go.Proofs.Tryd.prog 22 1 1 = true := by kernel_rfl
theorem q22_2 : fieldB Go.Proofs.Tryd.prog 22 2 2 = true := by kernel_rfl
theorem z23 : tyB Go.Proofs.Tryd.prog 23 true 3 = true := by kernel_rfl
theorem i23 : (Go.Proofs.Tryd.prog.info? 23).map (fun i => (i.zero, i.size, i.bytes)) = some (some (.agg #[(.int .i64 0), (.int .i64 0), (.int .i64 0)]), 3, 24) := by kernel_rfl
theorem p23 : placesB Go.Proofs.Tryd.prog 23 [(0, 1), (1, 1), (2, 1)] = true := by kernel_rfl
theorem q23_0 : fieldB Go.Proofs.Tryd.prog 23 0 0 = true := by kernel_rfl
theorem q23_1 : fieldB Go.Proofs.Tryd.prog 23 1 1 = true := by kernel_rfl
theorem q23_2 : fieldB Go.Proofs.Tryd.prog 23 2 2 = true := by kernel_rfl
theorem z24 : tyB Go.Proofs.Tryd.prog 24 false 1 = true := by kernel_rfl
theorem i24 : (Go.Proofs.Tryd.prog.info? 24).map (fun i => (i.zero, i.size, i.bytes)) = some (some (.slice none 0 0), 1, 24) := by kernel_rfl
theorem z25 : tyB Go.Proofs.Tryd.prog 25 false 1 = true := by kernel_rfl
theorem i25 : (Go.Proofs.Tryd.prog.info? 25).map (fun i => (i.zero, i.size, i.bytes)) = some (some (.slice none 0 0), 1, 24) := by kernel_rfl
theorem z26 : tyB Go.Proofs.Tryd.prog 26 true 5 = true := by kernel_rfl
theorem i26 : (Go.Proofs.Tryd.prog.info? 26).map (fun i => (i.zero, i.size, i.bytes)) = some (some (.agg #[(.int .i64 0), (.int .i64 0), (.int .i64 0), (.slice none 0 0), (.slice none 0 0)]), 5, 72) := by kernel_rfl
theorem p26 : placesB Go.Proofs.Tryd.prog 26 [(0, 3), (3, 1), (4, 1)] = true := by kernel_rfl
theorem q26_0 : fieldB Go.Proofs.Tryd.prog 26 0 0 = true := by kernel_rfl
theorem q26_1 : fieldB Go.Proofs.Tryd.prog 26 1 3 = true := by kernel_rfl
theorem q26_2 : fieldB Go.Proofs.Tryd.prog 26 2 4 = true := by kernel_rfl
theorem z27 : tyB Go.Proofs.Tryd.prog 27 true 5 = true := by kernel_rfl
theorem i27 : (Go.Proofs.Tryd.prog.info? 27).map (fun i => (i.zero, i.size, i.bytes)) = some (some (.agg #[(.int .i64 0), (.int .i64 0), (.int .i64 0), (.slice none 0 0), (.slice none 0 0)]), 5, 72) := by kernel_rfl
theorem p27 : placesB Go.Proofs.Tryd.prog 27 [(0, 3), (3, 1), (4, 1)] = true := by kernel_rfl
theorem q27_0 : fieldB Go.Proofs.Tryd.prog 27 0 0 = true := by kernel_rfl
theorem q27_1 : fieldB Go.Proofs.Tryd.prog 27 1 3 = true := by kernel_rfl
theorem q27_2 : fieldB Go.Proofs.Tryd.prog 27 2 4 = true := by kernel_rfl
theorem z28 : tyB Go.Proofs.Tryd.prog 28 false 1 = true := by kernel_rfl
theorem i28 : (Go.Proofs.Tryd.prog.info? 28).map (fun i => (i.zero, i.size, i.bytes)) = some (some .nilFunc, 1, 8) := by kernel_rfl
theorem z29 : tyB Go.Proofs.Tryd.prog 29 true 5 = true := by kernel_rfl
theorem i29 : (Go.Proofs.Tryd.prog.info? 29).map (fun i => (i.zero, i.size, i.bytes)) = some (some (.agg #[(.int .i64 0), (.int .i64 0), (.int .i64 0), (.slice none 0 0), (.slice none 0 0)]), 5, 72) := by kernel_rfl
theorem p29 : placesB Go.Proofs.Tryd.prog 29 [(0, 3), (3, 1), (4, 1)] = true := by kernel_rfl
theorem q29_0 : fieldB Go.Proofs.Tryd.prog 29 0 0 = true := by kernel_rfl
theorem q29_1 : fieldB Go.Proofs.Tryd.prog 29 1 3 = true := by kernel_rfl
theorem q29_2 : fieldB Go.Proofs.Tryd.prog 29 2 4 = true := by kernel_rfl
theorem z30 : tyB Go.Proofs.Tryd.prog 30 false 1 = true := by kernel_rfl
theorem i30 : (Go.Proofs.Tryd.prog.info? 30).map (fun i => (i.zero, i.size, i.bytes)) = some (some .nilFunc, 1, 8) := by kernel_rfl
theorem z31 : tyB Go.Proofs.Tryd.prog 31 false 1 = true := by kernel_rfl
theorem i31 : (Go.Proofs.Tryd.prog.info? 31).map (fun i => (i.zero, i.size, i.bytes)) = some (some (.slice none 0 0), 1, 24) := by kernel_rfl
theorem z32 : tyB Go.Proofs.Tryd.prog 32 false 1 = true := by kernel_rfl
theorem i32 : (Go.Proofs.Tryd.prog.info? 32).map (fun i => (i.zero, i.size, i.bytes)) = some (some (.int .i64 0), 1, 8) := by kernel_rfl
theorem z34 : tyB Go.Proofs.Tryd.prog 34 false 1 = true := by kernel_rfl
theorem i34 : (Go.Proofs.Tryd.prog.info? 34).map (fun i => (i.zero, i.size, i.bytes)) = some (some .nilFunc, 1, 8) := by kernel_rfl
theorem z35 : tyB Go.Proofs.Tryd.prog 35 false 1 = true := by kernel_rfl
theorem i35 : (Go.Proofs.Tryd.prog.info? 35).map (fun i => (i.zero, i.size, i.bytes)) = some (some .nilFunc, 1, 8) := by kernel_rfl
theorem z36 : tyB Go.Proofs.Tryd.prog 36 false 1 = true := by kernel_rfl
theorem i36 : (Go.Proofs.Tryd.prog.info? 36).map (fun i => (i.zero, i.size, i.bytes)) = some (some .nilFunc, 1, 8) := by kernel_rfl
theorem z38 : tyB Go.Proofs.Tryd.prog 38 false 1 = true := by kernel_rfl
theorem i38 : (Go.Proofs.Tryd.prog.info? 38).map (fun i => (i.zero, i.size, i.bytes)) = some (some .nilFunc, 1, 8) := by kernel_rfl
theorem z39 : tyB Go.Proofs.Tryd.prog 39 false 1 = true := by kernel_rfl
theorem i39 : (Go.Proofs.Tryd.prog.info? 39).map (fun i => (i.zero, i.size, i.bytes)) = some (some .nilFunc, 1, 8) := by kernel_rfl
theorem z40 : tyB Go.Proofs.Tryd.prog 40 false 1 = true := by kernel_rfl
theorem i40 : (Go.Proofs.Tryd.prog.info? 40).map (fun i => (i.zero, i.size, i.bytes)) = some (some .nilFunc, 1, 8) := by kernel_rfl
theorem z41 : tyB Go.Proofs.Tryd.prog 41 false 1 = true := by kernel_rfl
theorem i41 : (Go.Proofs.Tryd.prog.info? 41).map (fun i => (i.zero, i.size, i.bytes)) = some (some (.slice none 0 0), 1, 24) := by kernel_rfl
theorem z42 : tyB Go.Proofs.Tryd.prog 42 false 1 = true := by kernel_rfl
theorem i42 : (Go.Proofs.Tryd.prog.info? 42).map (fun i => (i.zero, i.size, i.bytes)) = some (some .nilFunc, 1, 8) := by kernel_rfl
theorem z43 : tyB Go.Proofs.Tryd.prog 43 true 2 = true := by kernel_rfl
theorem i43 : (Go.Proofs.Tryd.prog.info? 43).map (fun i => (i.zero, i.size, i.bytes)) = some (some (.agg #[(.int .i64 0), (.slice none 0 0)]), 2, 32) := by kernel_rfl
theorem p43 : placesB Go.Proofs.Tryd.prog 43 [(0, 1), (1, 1)] = true := by kernel_rfl
theorem q43_0 : fieldB Go.Proofs.Tryd.prog 43 0 0 = true := by kernel_rfl
theorem q43_1 : fieldB Go.Proofs.Tryd.prog 43 1 1 = true := by kernel_rfl
theorem z44 : tyB Go.Proofs.Tryd.prog 44 true 2 = true := by kernel_rfl
theorem i44 : (Go.Proofs.Tryd.prog.info? 44).map (fun i => (i.zero, i.size, i.bytes)) = some (some (.agg #[(.int .i64 0), (.slice none 0 0)]), 2, 32) := by kernel_rfl
theorem p44 : placesB Go.Proofs.Tryd.prog 44 [(0, 1), (1, 1)] = true := by kernel_rfl
theorem q44_0 : fieldB Go.Proofs.Tryd.prog 44 0 0 = true := by kernel_rfl
theorem q44_1 : fieldB Go.Proofs.Tryd.prog 44 1 1 = true := by kernel_rfl
theorem z45 : tyB Go.Proofs.Tryd.prog 45 false 1 = true := by kernel_rfl
theorem i45 : (Go.Proofs.Tryd.prog.info? 45).map (fun i => (i.zero, i.size, i.bytes)) = some (some .nilFunc, 1, 8) := by kernel_rfl
theorem z46 : tyB Go.Proofs.Tryd.prog 46 false 1 = true := by kernel_rfl
theorem i46 : (Go.Proofs.Tryd.prog.info? 46).map (fun i => (i.zero, i.size, i.bytes)) = some (some .nilFunc, 1, 8) := by kernel_rfl
theorem z47 : tyB Go.Proofs.Tryd.prog 47 true 5 = true := by kernel_rfl
theorem i47 : (Go.Proofs.Tryd.prog.info? 47).map (fun i => (i.zero, i.size, i.bytes)) = some (some (.agg #[(.int .i64 0), (.int .i64 0), (.int .i64 0), (.slice none 0 0), (.slice none 0 0)]), 5, 72) := by kernel_rfl
theorem p47 : placesB Go.Proofs.Tryd.prog 47 [(0, 3), (3, 1), (4, 1)] = true := by kernel_rfl
theorem q47_0 : fieldB Go.Proofs.Tryd.prog 47 0 0 = true := by kernel_rfl
theorem q47_1 : fieldB Go.Proofs.Tryd.prog 47 1 3 = true := by kernel_rfl
theorem q47_2 : fieldB Go.Proofs.Tryd.prog 47 2 4 = true := by kernel_rfl
theorem z48 : tyB Go.Proofs.Tryd.prog 48 true 5 = true := by kernel_rfl
theorem i48 : (Go.Proofs.Tryd.prog.info? 48).map (fun i => (i.zero, i.size, i.bytes)) = some (some (.agg #[(.int .i64 0), (.int .i64 0), (.int .i64 0), (.slice none 0 0), (.slice none 0 0)]), 5, 72) := by kernel_rfl
theorem p48 : placesB Go.Proofs.Tryd.prog 48 [(0, 3), (3, 1), (4, 1)] = true := by kernel_rfl
theorem q48_0 : fieldB Go.Proofs.Tryd.prog 48 0 0 = true := by kernel_rfl
theorem q48_1 : fieldB Go.Proofs.Tryd.prog 48 1 3 = true := by kernel_rfl
theorem q48_2 : fieldB Go.Proofs.Tryd.prog 48 2 4 = true := by kernel_rfl
theorem z49 : tyB Go.Proofs.Tryd.prog 49 false 1 = true := by kernel_rfl
theorem i49 : (Go.Proofs.Tryd.prog.info? 49).map (fun i => (i.zero, i.size, i.bytes)) = some (some .nilFunc, 1, 8) := by kernel_rfl
theorem z50 : tyB Go.Proofs.Tryd.prog 50 false 1 = true := by kernel_rfl
theorem i50 : (Go.Proofs.Tryd.prog.info? 50).map (fun i => (i.zero, i.size, i.bytes)) = some (some .nilFunc, 1, 8) := by kernel_rfl
theorem z51 : tyB Go.Proofs.Tryd.prog 51 false 1 = true := by kernel_rfl
theorem i51 : (Go.Proofs.Tryd.prog.info? 51).map (fun i => (i.zero, i.size, i.bytes)) = some (some .nilFunc, 1, 8) := by kernel_rfl
theorem z53 : tyB Go.Proofs.Tryd.prog 53 false 1 = true := by kernel_rfl
theorem i53 : (Go.Proofs.Tryd.prog.info? 53).map (fun i => (i.zero, i.size, i.bytes)) = some (some .nilFunc, 1, 8) := by kernel_rfl
theorem z54 : tyB Go.Proofs.Tryd.prog 54 false 1 = true := by kernel_rfl
theorem i54 : (Go.Proofs.Tryd.prog.info? 54).map (fun i => (i.zero, i.size, i.bytes)) = some (some (.pointer none), 1, 8) := by kernel_rfl
theorem z55 : tyB Go.Proofs.Tryd.prog 55 true 2 = true := by kernel_rfl
theorem i55 : (Go.Proofs.Tryd.prog.info? 55).map (fun i => (i.zero, i.size, i.bytes)) = some (some (.agg #[(.slice none 0 0), (.bool false)]), 2, 32) := by kernel_rfl
theorem p55 : placesB Go.Proofs.Tryd.prog 55 [(0, 1), (1, 1)] = true := by kernel_rfl
theorem q55_0 : fieldB Go.Proofs.Tryd.prog 55 0 0 = true := by kernel_rfl
theorem q55_1 : fieldB Go.Proofs.Tryd.prog 55 1 1 = true := by kernel_rfl
theorem z56 : tyB Go.Proofs.Tryd.prog 56 true 2 = true := by kernel_rfl
theorem i56 : (Go.Proofs.Tryd.prog.info? 56).map (fun i => (i.zero, i.size, i.bytes)) = some (some (.agg #[(.slice none 0 0), (.bool false)]), 2, 32) := by kernel_rfl
theorem p56 : placesB Go.Proofs.Tryd.prog 56 [(0, 1), (1, 1)] = true := by kernel_rfl
theorem q56_0 : fieldB Go.Proofs.Tryd.prog 56 0 0 = true := by kernel_rfl
theorem q56_1 : fieldB Go.Proofs.Tryd.prog 56 1 1 = true := by kernel_rfl
theorem z57 : tyB Go.Proofs.Tryd.prog 57 false 1 = true := by kernel_rfl
theorem i57 : (Go.Proofs.Tryd.prog.info? 57).map (fun i => (i.zero, i.size, i.bytes)) = some (some .nilFunc, 1, 8) := by kernel_rfl
theorem z58 : tyB Go.Proofs.Tryd.prog 58 false 1 = true := by kernel_rfl
theorem i58 : (Go.Proofs.Tryd.prog.info? 58).map (fun i => (i.zero, i.size, i.bytes)) = some (some .nilFunc, 1, 8) := by kernel_rfl
theorem z59 : tyB Go.Proofs.Tryd.prog 59 false 1 = true := by kernel_rfl
theorem i59 : (Go.Proofs.Tryd.prog.info? 59).map (fun i => (i.zero, i.size, i.bytes)) = some (some .nilFunc, 1, 8) := by kernel_rfl
theorem z60 : tyB Go.Proofs.Tryd.prog 60 false 1 = true := by kernel_rfl
theorem i60 : (Go.Proofs.Tryd.prog.info? 60).map (fun i => (i.zero, i.size, i.bytes)) = some (some .nilFunc, 1, 8) := by kernel_rfl
theorem z61 : tyB Go.Proofs.Tryd.prog 61 false 1 = true := by kernel_rfl
theorem i61 : (Go.Proofs.Tryd.prog.info? 61).map (fun i => (i.zero, i.size, i.bytes)) = some (some .nilFunc, 1, 8) := by kernel_rfl
theorem z62 : tyB Go.Proofs.Tryd.prog 62 false 1 = true := by kernel_rfl
theorem i62 : (Go.Proofs.Tryd.prog.info? 62).map (fun i => (i.zero, i.size, i.bytes)) = some (some .nilFunc, 1, 8) := by kernel_rfl
theorem z63 : tyB Go.Proofs.Tryd.prog 63 false 1 = true := by kernel_rfl
theorem i63 : (Go.Proofs.Tryd.prog.info? 63).map (fun i => (i.zero, i.size, i.bytes)) = some (some .nilFunc, 1, 8) := by kernel_rfl
theorem z64 : tyB Go.Proofs.Tryd.prog 64 false 1 = true := by kernel_rfl
theorem i64 : (Go.Proofs.Tryd.prog.info? 64).map (fun i => (i.zero, i.size, i.bytes)) = some (some .nilFunc, 1, 8) := by kernel_rfl
theorem z65 : tyB Go.Proofs.Tryd.prog 65 false 1 = true := by kernel_rfl
theorem i65 : (Go.Proofs.Tryd.prog.info? 65).map (fun i => (i.zero, i.size, i.bytes)) = some (some .nilFunc, 1, 8) := by kernel_rfl
theorem z66 : tyB Go.Proofs.Tryd.prog 66 false 1 = true := by kernel_rfl
theorem i66 : (Go.Proofs.Tryd.prog.info? 66).map (fun i => (i.zero, i.size, i.bytes)) = some (some .nilFunc, 1, 8) := by kernel_rfl
theorem z67 : tyB Go.Proofs.Tryd.prog 67 false 1 = true := by kernel_rfl
theorem i67 : (Go.Proofs.Tryd.prog.info? 67).map (fun i => (i.zero, i.size, i.bytes)) = some (some .nilFunc, 1, 8) := by kernel_rfl
theorem z68 : tyB Go.Proofs.Tryd.prog 68 false 1 = true := by kernel_rfl
theorem i68 : (Go.Proofs.Tryd.prog.info? 68).map (fun i => (i.zero, i.size, i.bytes)) = some (some .nilFunc, 1, 8) := by kernel_rfl
theorem z69 : tyB Go.Proofs.Tryd.prog 69 false 1 = true := by kernel_rfl
theorem i69 : (Go.Proofs.Tryd.prog.info? 69).map (fun i => (i.zero, i.size, i.bytes)) = some (some .nilFunc, 1, 8) := by kernel_rfl
theorem z70 : tyB Go.Proofs.Tryd.prog 70 false 1 = true := by kernel_rfl
theorem i70 : (Go.Proofs.Tryd.prog.info? 70).map (fun i => (i.zero, i.size, i.bytes)) = some (some .nilFunc, 1, 8) := by kernel_rfl
theorem z71 : tyB Go.Proofs.Tryd.prog 71 false 1 = true := by kernel_rfl
theorem i71 : (Go.Proofs.Tryd.prog.info? 71).map (fun i => (i.zero, i.size, i.bytes)) = some (some (.slice none 0 0), 1, 24) := by kernel_rfl
theorem z72 : tyB Go.Proofs.Tryd.prog 72 false 1 = true := by kernel_rfl
theorem i72 : (Go.Proofs.Tryd.prog.info? 72).map (fun i => (i.zero, i.size, i.bytes)) = some (some .nilFunc, 1, 8) := by kernel_rfl
theorem z73 : tyB Go.Proofs.Tryd.prog 73 false 1 = true := by kernel_rfl
theorem i73 : (Go.Proofs.Tryd.prog.info? 73).map (fun i => (i.zero, i.size, i.bytes)) = some (some .nilFunc, 1, 8) := by kernel_rfl
theorem z75 : tyB Go.Proofs.Tryd.prog 75 false 1 = true := by kernel_rfl
theorem i75 : (Go.Proofs.Tryd.prog.info? 75).map (fun i => (i.zero, i.size, i.bytes)) = some (some .nilFunc, 1, 8) := by kernel_rfl
theorem z76 : tyB Go.Proofs.Tryd.prog 76 false 1 = true := by kernel_rfl
theorem i76 : (Go.Proofs.Tryd.prog.info? 76).map (fun i => (i.zero, i.size, i.bytes)) = some (some .nilFunc, 1, 8) := by kernel_rfl
theorem z77 : tyB Go.Proofs.Tryd.prog 77 false 1 = true := by kernel_rfl
theorem i77 : (Go.Proofs.Tryd.prog.info? 77).map (fun i => (i.zero, i.size, i.bytes)) = some (some .nilFunc, 1, 8) := by kernel_rfl
theorem z78 : tyB Go.Proofs.Tryd.prog 78 false 1 = true := by kernel_rfl
theorem i78 : (Go.Proofs.Tryd.prog.info? 78).map (fun i => (i.zero, i.size, i.bytes)) = some (some .nilFunc, 1, 8) := by kernel_rfl
theorem z79 : tyB Go.Proofs.Tryd.prog 79 false 1 = true := by kernel_rfl
theorem i79 : (Go.Proofs.Tryd.prog.info? 79).map (fun i => (i.zero, i.size, i.bytes)) = some (some .nilFunc, 1, 8) := by kernel_rfl
theorem z80 : tyB Go.Proofs.Tryd.prog 80 true 256 = true := by kernel_rfl
theorem z81 : tyB Go.Proofs.Tryd.prog 81 true 256 = true := by kernel_rfl
theorem z83 : tyB Go.Proofs.Tryd.prog 83 false 1 = true := by kernel_rfl
theorem i83 : (Go.Proofs.Tryd.prog.info? 83).map (fun i => (i.zero, i.size, i.bytes)) = some (some .nilFunc, 1, 8) := by kernel_rfl
theorem z84 : tyB Go.Proofs.Tryd.prog 84 false 1 = true := by kernel_rfl
theorem i84 : (Go.Proofs.Tryd.prog.info? 84).map (fun i => (i.zero, i.size, i.bytes)) = some (some .nilFunc, 1, 8) := by kernel_rfl
theorem z85 : tyB Go.Proofs.Tryd.prog 85 false 1 = true := by kernel_rfl
theorem i85 : (Go.Proofs.Tryd.prog.info? 85).map (fun i => (i.zero, i.size, i.bytes)) = some (some (.pointer none), 1, 8) := by kernel_rfl
theorem z86 : tyB Go.Proofs.Tryd.prog 86 false 1 = true := by kernel_rfl
theorem i86 : (Go.Proofs.Tryd.prog.info? 86).map (fun i => (i.zero, i.size, i.bytes)) = some (some .nilFunc, 1, 8) := by kernel_rfl
theorem z87 : tyB Go.Proofs.Tryd.prog 87 false 1 = true := by kernel_rfl
theorem i87 : (Go.Proofs.Tryd.prog.info? 87).map (fun i => (i.zero, i.size, i.bytes)) = some (some .nilFunc, 1, 8) := by kernel_rfl
theorem z88 : tyB Go.Proofs.Tryd.prog 88 false 1 = true := by kernel_rfl
theorem i88 : (Go.Proofs.Tryd.prog.info? 88).map (fun i => (i.zero, i.size, i.bytes)) = some (some .nilFunc, 1, 8) := by kernel_rfl
theorem z90 : tyB Go.Proofs.Tryd.prog 90 false 1 = true := by kernel_rfl
theorem i90 : (Go.Proofs.Tryd.prog.info? 90).map (fun i => (i.zero, i.size, i.bytes)) = some (some .nilFunc, 1, 8) := by kernel_rfl
theorem z91 : tyB Go.Proofs.Tryd.prog 91 false 1 = true := by kernel_rfl
theorem i91 : (Go.Proofs.Tryd.prog.info? 91).map (fun i => (i.zero, i.size, i.bytes)) = some (some .nilFunc, 1, 8) := by kernel_rfl
theorem z92 : tyB Go.Proofs.Tryd.prog 92 false 1 = true := by kernel_rfl
theorem i92 : (Go.Proofs.Tryd.prog.info? 92).map (fun i => (i.zero, i.size, i.bytes)) = some (some .nilFunc, 1, 8) := by kernel_rfl
theorem z93 : tyB Go.Proofs.Tryd.prog 93 false 1 = true := by kernel_rfl
theorem i93 : (Go.Proofs.Tryd.prog.info? 93).map (fun i => (i.zero, i.size, i.bytes)) = some (some (.int .u64 0), 1, 8) := by kernel_rfl
theorem z94 : tyB Go.Proofs.Tryd.prog 94 false 1 = true := by kernel_rfl
theorem i94 : (Go.Proofs.Tryd.prog.info? 94).map (fun i => (i.zero, i.size, i.bytes)) = some (some .nilFunc, 1, 8) := by kernel_rfl
theorem z95 : tyB Go.Proofs.Tryd.prog 95 false 1 = true := by kernel_rfl
theorem i95 : (Go.Proofs.Tryd.prog.info? 95).map (fun i => (i.zero, i.size, i.bytes)) = some (some (.int .u32 0), 1, 4) := by kernel_rfl
theorem z97 : tyB Go.Proofs.Tryd.prog 97 false 1 = true := by kernel_rfl
theorem i97 : (Go.Proofs.Tryd.prog.info? 97).map (fun i => (i.zero, i.size, i.bytes)) = some (some .nilFunc, 1, 8) := by kernel_rfl
theorem z98 : tyB Go.Proofs.Tryd.prog 98 true 256 = true := by kernel_rfl
theorem z99 : tyB Go.Proofs.Tryd.prog 99 true 2 = true := by kernel_rfl
theorem i99 : (Go.Proofs.Tryd.prog.info? 99).map (fun i => (i.zero, i.size, i.bytes)) = some (some (.agg #[(.int .u8 0), (.int .u8 0)]), 2, 2) := by kernel_rfl
theorem p99 : placesB Go.Proofs.Tryd.prog 99 [(0, 1), (1, 1)] = true := by kernel_rfl
theorem q99_0 : fieldB Go.Proofs.Tryd.prog 99 0 0 = true := by kernel_rfl
theorem q99_1 : fieldB Go.Proofs.Tryd.prog 99 1 1 = true := by kernel_rfl
theorem z100 : tyB Go.Proofs.Tryd.prog 100 true 2 = true := by kernel_rfl
theorem i100 : (Go.Proofs.Tryd.prog.info? 100).map (fun i => (i.zero, i.size, i.bytes)) = some (some (.agg #[(.int .u8 0), (.int .u8 0)]), 2, 2) := by kernel_rfl
theorem p100 : placesB Go.Proofs.Tryd.prog 100 [(0, 1), (1, 1)] = true := by kernel_rfl
theorem q100_0 : fieldB Go.Proofs.Tryd.prog 100 0 0 = true := by kernel_rfl
theorem q100_1 : fieldB Go.Proofs.Tryd.prog 100 1 1 = true := by kernel_rfl
theorem z101 : tyB Go.Proofs.Tryd.prog 101 true 32 = true := by kernel_rfl
theorem z102 : tyB Go.Proofs.Tryd.prog 102 false 1 = true := by kernel_rfl
theorem i102 : (Go.Proofs.Tryd.prog.info? 102).map (fun i => (i.zero, i.size, i.bytes)) = some (some .nilFunc, 1, 8) := by kernel_rfl
theorem z103 : tyB Go.Proofs.Tryd.prog 103 true 4 = true := by kernel_rfl
theorem i103 : (Go.Proofs.Tryd.prog.info? 103).map (fun i => (i.zero, i.size, i.bytes)) = some (some (.agg #[(.pointer none), (.pointer none), (.pointer none), (.string ⟨#[]⟩)]), 4, 40) := by kernel_rfl
theorem p103 : placesB Go.Proofs.Tryd.prog 103 [(0, 1), (1, 1), (2, 1), (3, 1)] = true := by kernel_rfl
theorem q103_0 : fieldB Go.Proofs.Tryd.prog 103 0 0 = true := by kernel_rfl
theorem q103_1 : fieldB Go.Proofs.Tryd.prog 103 1 1 = true := by kernel_rfl
theorem q103_2 : fieldB Go.Proofs.Tryd.prog 103 2 2 = true := by kernel_rfl
theorem q103_3 : fieldB Go.Proofs.Tryd.prog 103 3 3 = true := by kernel_rfl
theorem z104 : tyB Go.Proofs.Tryd.prog 104 true 4 = true := by kernel_rfl
theorem i104 : (Go.Proofs.Tryd.prog.info? 104).map (fun i => (i.zero, i.size, i.bytes)) = some (some (.agg #[(.pointer none), (.pointer none), (.pointer none), (.string ⟨#[]⟩)]), 4, 40) := by kernel_rfl
theorem p104 : placesB Go.Proofs.Tryd.prog 104 [(0, 1), (1, 1), (2, 1), (3, 1)] = true := by kernel_rfl
theorem q104_0 : fieldB Go.Proofs.Tryd.prog 104 0 0 = true := by kernel_rfl
theorem q104_1 : fieldB Go.Proofs.Tryd.prog 104 1 1 = true := by kernel_rfl
theorem q104_2 : fieldB Go.Proofs.Tryd.prog 104 2 2 = true := by kernel_rfl
theorem q104_3 : fieldB Go.Proofs.Tryd.prog 104 3 3 = true := by kernel_rfl
theorem z105 : tyB Go.Proofs.Tryd.prog 105 true 0 = true := by kernel_rfl
theorem i105 : (Go.Proofs.Tryd.prog.info? 105).map (fun i => (i.zero, i.size, i.bytes)) = some (some (.agg #[]), 0, 0) := by kernel_rfl
theorem z106 : tyB Go.Proofs.Tryd.prog 106 true 0 = true := by kernel_rfl
theorem i106 : (Go.Proofs.Tryd.prog.info? 106).map (fun i => (i.zero, i.size, i.bytes)) = some (some (.agg #[]), 0, 0) := by kernel_rfl
theorem p106 : placesB Go.Proofs.Tryd.prog 106 [(0, 0)] = true := by kernel_rfl
theorem z107 : tyB Go.Proofs.Tryd.prog 107 true 0 = true := by kernel_rfl
theorem i107 : (Go.Proofs.Tryd.prog.info? 107).map (fun i => (i.zero, i.size, i.bytes)) = some (some (.agg #[]), 0, 0) := by kernel_rfl
theorem p107 : placesB Go.Proofs.Tryd.prog 107 [(0, 0)] = true := by kernel_rfl
theorem z108 : tyB Go.Proofs.Tryd.prog 108 false 1 = true := by kernel_rfl
theorem i108 : (Go.Proofs.Tryd.prog.info? 108).map (fun i => (i.zero, i.size, i.bytes)) = some (some (.int .u8 0), 1, 1) := by kernel_rfl
theorem z109 : tyB Go.Proofs.Tryd.prog 109 false 1 = true := by kernel_rfl
theorem i109 : (Go.Proofs.Tryd.prog.info? 109).map (fun i => (i.zero, i.size, i.bytes)) = some (some (.int .u8 0), 1, 1) := by kernel_rfl
theorem z110 : tyB Go.Proofs.Tryd.prog 110 false 1 = true := by kernel_rfl
theorem i110 : (Go.Proofs.Tryd.prog.info? 110).map (fun i => (i.zero, i.size, i.bytes)) = some (some .nilFunc, 1, 8) := by kernel_rfl
theorem z111 : tyB Go.Proofs.Tryd.prog 111 false 1 = true := by kernel_rfl
theorem i111 : (Go.Proofs.Tryd.prog.info? 111).map (fun i => (i.zero, i.size, i.bytes)) = some (some (.pointer none), 1, 8) := by kernel_rfl
theorem z112 : tyB Go.Proofs.Tryd.prog 112 false 1 = true := by kernel_rfl
theorem i112 : (Go.Proofs.Tryd.prog.info? 112).map (fun i => (i.zero, i.size, i.bytes)) = some (some (.int .i32 0), 1, 4) := by kernel_rfl
theorem z113 : tyB Go.Proofs.Tryd.prog 113 false 1 = true := by kernel_rfl
theorem i113 : (Go.Proofs.Tryd.prog.info? 113).map (fun i => (i.zero, i.size, i.bytes)) = some (some (.int .i32 0), 1, 4) := by kernel_rfl
theorem z114 : tyB Go.Proofs.Tryd.prog 114 true 11 = true := by kernel_rfl
theorem i114 : (Go.Proofs.Tryd.prog.info? 114).map (fun i => (i.zero, i.size, i.bytes)) = some (some (.agg #[(.int .u64 0), (.int .u64 0), (.int .u32 0), (.int .u8 0), (.int .u8 0), (.int .u8 0), (.int .u8 0), .nilFunc, (.pointer none), (.int .i32 0), (.int .i32 0)]), 11, 48) := by kernel_rfl
theorem p114 : placesB Go.Proofs.Tryd.prog 114 [(0, 1), (1, 1), (2, 1), (3, 1), (4, 1), (5, 1), (6, 1), (7, 1), (8, 1), (9, 1), (10, 1)] = true := by kernel_rfl
theorem q114_0 : fieldB Go.Proofs.Tryd.prog 114 0 0 = true := by kernel_rfl
theorem q114_1 : fieldB Go.Proofs.Tryd.prog 114 1 1 = true := by kernel_rfl
theorem q114_2 : fieldB Go.Proofs.Tryd.prog 114 2 2 = true := by kernel_rfl
theorem q114_3 : fieldB Go.Proofs.Tryd.prog 114 3 3 = true := by kernel_rfl
theorem q114_4 : fieldB Go.Proofs.Tryd.prog 114 4 4 = true := by kernel_rfl
theorem q114_5 : fieldB Go.Proofs.Tryd.prog 114 5 5 = true := by kernel_rfl
theorem q114_6 : fieldB Go.Proofs.Tryd.prog 114 6 6 = true := by kernel_rfl
theorem q114_7 : fieldB Go.Proofs.Tryd.prog 114 7 7 = true := by kernel_rfl
theorem q114_8 : fieldB Go.Proofs.Tryd.prog 114 8 8 = true := by kernel_rfl
theorem q114_9 : fieldB Go.Proofs.Tryd.prog 114 9 9 = true := by kernel_rfl
theorem q114_10 : fieldB Go.Proofs.Tryd.prog 114 10 10 = true := by kernel_rfl
theorem z115 : tyB Go.Proofs.Tryd.prog 115 true 11 = true := by kernel_rfl
theorem i115 : (Go.Proofs.Tryd.prog.info? 115).map (fun i => (i.zero, i.size, i.bytes)) = some (some (.agg #[(.int .u64 0), (.int .u64 0), (.int .u32 0), (.int .u8 0), (.int .u8 0), (.int .u8 0), (.int .u8 0), .nilFunc, (.pointer none), (.int .i32 0), (.int .i32 0)]), 11, 48) := by kernel_rfl
theorem p115 : placesB Go.Proofs.Tryd.prog 115 [(0, 1), (1, 1), (2, 1), (3, 1), (4, 1), (5, 1), (6, 1), (7, 1), (8, 1), (9, 1), (10, 1)] = true := by kernel_rfl
theorem q115_0 : fieldB Go.Proofs.Tryd.prog 115 0 0 = true := by kernel_rfl
theorem q115_1 : fieldB Go.Proofs.Tryd.prog 115 1 1 = true := by kernel_rfl
theorem q115_2 : fieldB Go.Proofs.Tryd.prog 115 2 2 = true := by kernel_rfl
theorem q115_3 : fieldB Go.Proofs.Tryd.prog 115 3 3 = true := by kernel_rfl
theorem q115_4 : fieldB Go.Proofs.Tryd.prog 115 4 4 = true := by kernel_rfl
theorem q115_5 : fieldB Go.Proofs.Tryd.prog 115 5 5 = true := by kernel_rfl
theorem q115_6 : fieldB Go.Proofs.Tryd.prog 115 6 6 = true := by kernel_rfl
theorem q115_7 : fieldB Go.Proofs.Tryd.prog 115 7 7 = true := by kernel_rfl
theorem q115_8 : fieldB Go.Proofs.Tryd.prog 115 8 8 = true := by kernel_rfl
theorem q115_9 : fieldB Go.Proofs.Tryd.prog 115 9 9 = true := by kernel_rfl
theorem q115_10 : fieldB Go.Proofs.Tryd.prog 115 10 10 = true := by kernel_rfl
theorem c2 : callB Go.Proofs.Tryd.prog 2 = true := by kernel_rfl
theorem c3 : callB Go.Proofs.Tryd.prog 3 = true := by kernel_rfl
theorem c4 : callB Go.Proofs.Tryd.prog 4 = true := by kernel_rfl
theorem c5 : callB Go.Proofs.Tryd.prog 5 = true := by kernel_rfl
theorem c6 : callB Go.Proofs.Tryd.prog 6 = true := by kernel_rfl
theorem c7 : callB Go.Proofs.Tryd.prog 7 = true := by kernel_rfl
theorem c8 : callB Go.Proofs.Tryd.prog 8 = true := by kernel_rfl
theorem c9 : callB Go.Proofs.Tryd.prog 9 = true := by kernel_rfl
theorem c10 : callB Go.Proofs.Tryd.prog 10 = true := by kernel_rfl
theorem c11 : callB Go.Proofs.Tryd.prog 11 = true := by kernel_rfl
theorem c12 : callB Go.Proofs.Tryd.prog 12 = true := by kernel_rfl
theorem c13 : callB Go.Proofs.Tryd.prog 13 = true := by kernel_rfl
theorem c14 : callB Go.Proofs.Tryd.prog 14 = true := by kernel_rfl
theorem c15 : callB Go.Proofs.Tryd.prog 15 = true := by kernel_rfl
theorem c16 : callB Go.Proofs.Tryd.prog 16 = true := by kernel_rfl
theorem c17 : callB Go.Proofs.Tryd.prog 17 = true := by kernel_rfl
theorem c18 : callB Go.Proofs.Tryd.prog 18 = true := by kernel_rfl
theorem c19 : callB Go.Proofs.Tryd.prog 19 = true := by kernel_rfl
theorem c20 : callB Go.Proofs.Tryd.prog 20 = true := by kernel_rfl
theorem c21 : callB Go.Proofs.Tryd.prog 21 = true := by kernel_rfl
theorem c22 : callB Go.Proofs.Tryd.prog 22 = true := by kernel_rfl
theorem c23 : callB Go.Proofs.Tryd.prog 23 = true := by kernel_rfl
theorem c24 : callB Go.Proofs.Tryd.prog 24 = true := by kernel_rfl
theorem c25 : callB Go.Proofs.Tryd.prog 25 = true := by kernel_rfl
theorem c26 : callB Go.Proofs.Tryd.prog 26 = true := by kernel_rfl
theorem c27 : callB Go.Proofs.Tryd.prog 27 = true := by kernel_rfl
theorem c28 : callB Go.Proofs.Tryd.prog 28 = true := by kernel_rfl
theorem c29 : callB Go.Proofs.Tryd.prog 29 = true := by kernel_rfl
theorem c30 : callB Go.Proofs.Tryd.prog 30 = true := by kernel_rfl
theorem c31 : callB Go.Proofs.Tryd.prog 31 = true := by kernel_rfl
theorem c32 : callB Go.Proofs.Tryd.prog 32 = true := by kernel_rfl
theorem c33 : callB Go.Proofs.Tryd.prog 33 = true := by kernel_rfl
theorem c34 : callB Go.Proofs.Tryd.prog 34 = true := by kernel_rfl
theorem c35 : callB Go.Proofs.Tryd.prog 35 = true := by kernel_rfl
theorem c36 : callB Go.Proofs.Tryd.prog 36 = true := by kernel_rfl
theorem c37 : callB Go.Proofs.Tryd.prog 37 = true := by kernel_rfl
theorem c38 : callB Go.Proofs.Tryd.prog 38 = true := by kernel_rfl
theorem c39 : callB Go.Proofs.Tryd.prog 39 = true := by kernel_rfl
theorem c40 : callB Go.Proofs.Tryd.prog 40 = true := by kernel_rfl
theorem c41 : callB Go.Proofs.Tryd.prog 41 = true := by kernel_rfl
theorem c42 : callB Go.Proofs.Tryd.prog 42 = true := by kernel_rfl
theorem c43 : callB Go.Proofs.Tryd.prog 43 = true := by kernel_rfl
theorem c44 : callB Go.Proofs.Tryd.prog 44 = true := by kernel_rfl
theorem c45 : callB Go.Proofs.Tryd.prog 45 = true := by kernel_rfl
theorem c46 : callB Go.Proofs.Tryd.prog 46 = true := by kernel_rfl
theorem c47 : callB Go.Proofs.Tryd.prog 47 = true := by kernel_rfl
theorem c48 : callB Go.Proofs.Tryd.prog 48 = true := by kernel_rfl
theorem c49 : callB Go.Proofs.Tryd.prog 49 = true := by kernel_rfl
theorem c50 : callB Go.Proofs.Tryd.prog 50 = true := by kernel_rfl
theorem c51 : callB Go.Proofs.Tryd.prog 51 = true := by kernel_rfl
theorem c52 : callB Go.Proofs.Tryd.prog 52 = true := by kernel_rfl
theorem c53 : callB Go.Proofs.Tryd.prog 53 = true := by kernel_rfl
theorem c54 : callB Go.Proofs.Tryd.prog 54 = true := by kernel_rfl
theorem c55 : callB Go.Proofs.Tryd.prog 55 = true := by kernel_rfl
theorem c56 : callB Go.Proofs.Tryd.prog 56 = true := by kernel_rfl
theorem c58 : callB Go.Proofs.Tryd.prog 58 = true := by kernel_rfl
theorem c59 : callB Go.Proofs.Tryd.prog 59 = true := by kernel_rfl
theorem c60 : callB Go.Proofs.Tryd.prog 60 = true := by kernel_rfl
theorem c61 : callB Go.Proofs.Tryd.prog 61 = true := by kernel_rfl
theorem c62 : callB Go.Proofs.Tryd.prog 62 = true := by kernel_rfl
theorem c64 : callB Go.Proofs.Tryd.prog 64 = true := by kernel_rfl
theorem c65 : callB Go.Proofs.Tryd.prog 65 = true := by kernel_rfl
theorem c66 : callB Go.Proofs.Tryd.prog 66 = true := by kernel_rfl
theorem c87 : callB Go.Proofs.Tryd.prog 87 = true := by kernel_rfl
end Go.Proofs.YtlpoepmipbegaaaDoor.Ty
