import Derived.Test.YtlpoepmipbegaaaEn
import Derived.Test.YtlpoepmipbegaaaProg
set_option linter.unusedVariables false
set_option maxRecDepth 100000
namespace Go.Proofs.Ytlpoepmipbegaaa.Ty
open Go Go.Proofs.Ytlpoepmipbegaaa.En
theorem z1 : tyB Go.Proofs.Try.prog 1 false 1 = true := by kernel_rfl
theorem i1 : (Go.Proofs.Try.prog.info? 1).map (fun i => (i.zero, i.size, i.bytes)) = some (some .nilFunc, 1, 8) := by kernel_rfl
theorem z2 : tyB Go.Proofs.Try.prog 2 false 1 = true := by kernel_rfl
theorem i2 : (Go.Proofs.Try.prog.info? 2).map (fun i => (i.zero, i.size, i.bytes)) = some (some (.int .i64 0), 1, 8) := by kernel_rfl
theorem z3 : tyB Go.Proofs.Try.prog 3 false 1 = true := by kernel_rfl
theorem i3 : (Go.Proofs.Try.prog.info? 3).map (fun i => (i.zero, i.size, i.bytes)) = some (some (.int .i64 0), 1, 8) := by kernel_rfl
theorem z4 : tyB Go.Proofs.Try.prog 4 false 1 = true := by kernel_rfl
theorem i4 : (Go.Proofs.Try.prog.info? 4).map (fun i => (i.zero, i.size, i.bytes)) = some (some (.bool false), 1, 1) := by kernel_rfl
theorem z5 : tyB Go.Proofs.Try.prog 5 false 1 = true := by kernel_rfl
theorem i5 : (Go.Proofs.Try.prog.info? 5).map (fun i => (i.zero, i.size, i.bytes)) = some (some (.int .u8 0), 1, 1) := by kernel_rfl
theorem z6 : tyB Go.Proofs.Try.prog 6 false 1 = true := by kernel_rfl
theorem i6 : (Go.Proofs.Try.prog.info? 6).map (fun i => (i.zero, i.size, i.bytes)) = some (some (.int .u8 0), 1, 1) := by kernel_rfl
theorem z7 : tyB Go.Proofs.Try.prog 7 true 4 = true := by kernel_rfl
theorem i7 : (Go.Proofs.Try.prog.info? 7).map (fun i => (i.zero, i.size, i.bytes)) = some (some (.agg #[(.int .i64 0), (.int .i64 0), (.bool false), (.int .u8 0)]), 4, 24) := by kernel_rfl
theorem p7 : placesB Go.Proofs.Try.prog 7 [(0, 1), (1, 1), (2, 1), (3, 1)] = true := by kernel_rfl
theorem q7_0 : fieldB Go.Proofs.Try.prog 7 0 0 = true := by kernel_rfl
theorem q7_1 : fieldB Go.Proofs.Try.prog 7 1 1 = true := by kernel_rfl
theorem q7_2 : fieldB Go.Proofs.Try.prog 7 2 2 = true := by kernel_rfl
theorem q7_3 : fieldB Go.Proofs.Try.prog 7 3 3 = true := by kernel_rfl
theorem z8 : tyB Go.Proofs.Try.prog 8 true 4 = true := by kernel_rfl
theorem i8 : (Go.Proofs.Try.prog.info? 8).map (fun i => (i.zero, i.size, i.bytes)) = some (some (.agg #[(.int .i64 0), (.int .i64 0), (.bool false), (.int .u8 0)]), 4, 24) := by kernel_rfl
theorem p8 : placesB Go.Proofs.Try.prog 8 [(0, 1), (1, 1), (2, 1), (3, 1)] = true := by kernel_rfl
theorem q8_0 : fieldB Go.Proofs.Try.prog 8 0 0 = true := by kernel_rfl
theorem q8_1 : fieldB Go.Proofs.Try.prog 8 1 1 = true := by kernel_rfl
theorem q8_2 : fieldB Go.Proofs.Try.prog 8 2 2 = true := by kernel_rfl
theorem q8_3 : fieldB Go.Proofs.Try.prog 8 3 3 = true := by kernel_rfl
theorem z9 : tyB Go.Proofs.Try.prog 9 false 1 = true := by kernel_rfl
theorem i9 : (Go.Proofs.Try.prog.info? 9).map (fun i => (i.zero, i.size, i.bytes)) = some (some (.string ⟨#[]⟩), 1, 16) := by kernel_rfl
theorem z10 : tyB Go.Proofs.Try.prog 10 false 1 = true := by kernel_rfl
theorem i10 : (Go.Proofs.Try.prog.info? 10).map (fun i => (i.zero, i.size, i.bytes)) = some (some (.string ⟨#[]⟩), 1, 16) := by kernel_rfl
theorem z11 : tyB Go.Proofs.Try.prog 11 false 1 = true := by kernel_rfl
theorem i11 : (Go.Proofs.Try.prog.info? 11).map (fun i => (i.zero, i.size, i.bytes)) = some (some (.string ⟨#[]⟩), 1, 16) := by kernel_rfl
theorem z12 : tyB Go.Proofs.Try.prog 12 false 1 = true := by kernel_rfl
theorem i12 : (Go.Proofs.Try.prog.info? 12).map (fun i => (i.zero, i.size, i.bytes)) = some (some (.int .u64 0), 1, 8) := by kernel_rfl
theorem z13 : tyB Go.Proofs.Try.prog 13 true 2 = true := by kernel_rfl
theorem i13 : (Go.Proofs.Try.prog.info? 13).map (fun i => (i.zero, i.size, i.bytes)) = some (some (.agg #[(.string ⟨#[]⟩), (.int .u64 0)]), 2, 24) := by kernel_rfl
theorem p13 : placesB Go.Proofs.Try.prog 13 [(0, 1), (1, 1)] = true := by kernel_rfl
theorem q13_0 : fieldB Go.Proofs.Try.prog 13 0 0 = true := by kernel_rfl
theorem q13_1 : fieldB Go.Proofs.Try.prog 13 1 1 = true := by kernel_rfl
theorem z14 : tyB Go.Proofs.Try.prog 14 true 2 = true := by kernel_rfl
theorem i14 : (Go.Proofs.Try.prog.info? 14).map (fun i => (i.zero, i.size, i.bytes)) = some (some (.agg #[(.string ⟨#[]⟩), (.int .u64 0)]), 2, 24) := by kernel_rfl
theorem p14 : placesB Go.Proofs.Try.prog 14 [(0, 1), (1, 1)] = true := by kernel_rfl
theorem q14_0 : fieldB Go.Proofs.Try.prog 14 0 0 = true := by kernel_rfl
theorem q14_1 : fieldB Go.Proofs.Try.prog 14 1 1 = true := by kernel_rfl
theorem z15 : tyB Go.Proofs.Try.prog 15 false 1 = true := by kernel_rfl
theorem i15 : (Go.Proofs.Try.prog.info? 15).map (fun i => (i.zero, i.size, i.bytes)) = some (some (.pointer none), 1, 8) := by kernel_rfl
theorem z16 : tyB Go.Proofs.Try.prog 16 false 1 = true := by kernel_rfl
theorem i16 : (Go.Proofs.Try.prog.info? 16).map (fun i => (i.zero, i.size, i.bytes)) = some (some (.pointer none), 1, 8) := by kernel_rfl
theorem z17 : tyB Go.Proofs.Try.prog 17 false 1 = true := by kernel_rfl
theorem i17 : (Go.Proofs.Try.prog.info? 17).map (fun i => (i.zero, i.size, i.bytes)) = some (some (.pointer none), 1, 8) := by kernel_rfl
theorem z18 : tyB Go.Proofs.Try.prog 18 true 1 = true := by kernel_rfl
theorem i18 : (Go.Proofs.Try.prog.info? 18).map (fun i => (i.zero, i.size, i.bytes)) = some (some (.agg #[(.pointer none)]), 1, 8) := by kernel_rfl
theorem p18 : placesB Go.Proofs.Try.prog 18 [(0, 1)] = true := by kernel_rfl
theorem q18_0 : fieldB Go.Proofs.Try.prog 18 0 0 = true := by kernel_rfl
theorem z19 : tyB Go.Proofs.Try.prog 19 true 1 = true := by kernel_rfl
theorem i19 : (Go.Proofs.Try.prog.info? 19).map (fun i => (i.zero, i.size, i.bytes)) = some (some (.agg #[(.pointer none)]), 1, 8) := by kernel_rfl
theorem p19 : placesB Go.Proofs.Try.prog 19 [(0, 1)] = true := by kernel_rfl
theorem q19_0 : fieldB Go.Proofs.Try.prog 19 0 0 = true := by kernel_rfl
theorem z20 : tyB Go.Proofs.Try.prog 20 false 1 = true := by kernel_rfl
theorem i20 : (Go.Proofs.Try.prog.info? 20).map (fun i => (i.zero, i.size, i.bytes)) = some (some .nilIface, 1, 16) := by kernel_rfl
theorem z21 : tyB Go.Proofs.Try.prog 21 false 1 = true := by kernel_rfl
theorem i21 : (Go.Proofs.Try.prog.info? 21).map (fun i => (i.zero, i.size, i.bytes)) = some (some (.int .i32 0), 1, 4) := by kernel_rfl
theorem z22 : tyB Go.Proofs.Try.prog 22 false 1 = true := by kernel_rfl
theorem i22 : (Go.Proofs.Try.prog.info? 22).map (fun i => (i.zero, i.size, i.bytes)) = some (some (.slice none 0 0), 1, 24) := by kernel_rfl
theorem z23 : tyB Go.Proofs.Try.prog 23 true 3 = true := by kernel_rfl
theorem i23 : (Go.Proofs.Try.prog.info? 23).map (fun i => (i.zero, i.size, i.bytes)) = some (some (.agg #[(.bool false), (.int .i64 0), (.slice none 0 0)]), 3, 40) := by kernel_rfl
theorem p23 : placesB Go.Proofs.Try.prog 23 [(0, 1), (1, 1), (2, 1)] = true := by kernel_rfl
theorem q23_0 : fieldB Go.Proofs.Try.prog 23 0 0 = true := by kernel_rfl
theorem q23_1 : fieldB Go.Proofs.Try.prog 23 1 1 = true := by kernel_rfl
theorem q23_2 : fieldB Go.Proofs.Try.prog 23 2 2 = true := by kernel_rfl
theorem z24 : tyB Go.Proofs.Try.prog 24 true 3 = true := by kernel_rfl
theorem i24 : (Go.Proofs.Try.prog.info? 24).map (fun i => (i.zero, i.size, i.bytes)) = some (some (.agg #[(.bool false), (.int .i64 0), (.slice none 0 0)]), 3, 40) := by kernel_rfl
theorem p24 : placesB Go.Proofs.Try.prog 24 [(0, 1), (1, 1), (2, 1)] = true := by kernel_rfl
theorem q24_0 : fieldB Go.Proofs.Try.prog 24 0 0 = true := by kernel_rfl
theorem q24_1 : fieldB Go.Proofs.Try.prog 24 1 1 = true := by kernel_rfl
theorem q24_2 : fieldB Go.Proofs.Try.prog 24 2 2 = true := by kernel_rfl
theorem z25 : tyB Go.Proofs.Try.prog 25 false 1 = true := by kernel_rfl
theorem i25 : (Go.Proofs.Try.prog.info? 25).map (fun i => (i.zero, i.size, i.bytes)) = some (some .nilFunc, 1, 8) := by kernel_rfl
theorem z26 : tyB Go.Proofs.Try.prog 26 true 3 = true := by kernel_rfl
theorem i26 : (Go.Proofs.Try.prog.info? 26).map (fun i => (i.zero, i.size, i.bytes)) = some (some (.agg #[(.bool false), (.int .i64 0), (.slice none 0 0)]), 3, 40) := by kernel_rfl
theorem p26 : placesB Go.Proofs.Try.prog 26 [(0, 1), (1, 1), (2, 1)] = true := by kernel_rfl
theorem q26_0 : fieldB Go.Proofs.Try.prog 26 0 0 = true := by kernel_rfl
theorem q26_1 : fieldB Go.Proofs.Try.prog 26 1 1 = true := by kernel_rfl
theorem q26_2 : fieldB Go.Proofs.Try.prog 26 2 2 = true := by kernel_rfl
theorem z27 : tyB Go.Proofs.Try.prog 27 false 1 = true := by kernel_rfl
theorem i27 : (Go.Proofs.Try.prog.info? 27).map (fun i => (i.zero, i.size, i.bytes)) = some (some .nilFunc, 1, 8) := by kernel_rfl
theorem z28 : tyB Go.Proofs.Try.prog 28 false 1 = true := by kernel_rfl
theorem i28 : (Go.Proofs.Try.prog.info? 28).map (fun i => (i.zero, i.size, i.bytes)) = some (some (.int .i64 0), 1, 8) := by kernel_rfl
theorem z30 : tyB Go.Proofs.Try.prog 30 false 1 = true := by kernel_rfl
theorem i30 : (Go.Proofs.Try.prog.info? 30).map (fun i => (i.zero, i.size, i.bytes)) = some (some .nilFunc, 1, 8) := by kernel_rfl
theorem z32 : tyB Go.Proofs.Try.prog 32 false 1 = true := by kernel_rfl
theorem i32 : (Go.Proofs.Try.prog.info? 32).map (fun i => (i.zero, i.size, i.bytes)) = some (some .nilFunc, 1, 8) := by kernel_rfl
theorem z33 : tyB Go.Proofs.Try.prog 33 false 1 = true := by kernel_rfl
theorem i33 : (Go.Proofs.Try.prog.info? 33).map (fun i => (i.zero, i.size, i.bytes)) = some (some (.slice none 0 0), 1, 24) := by kernel_rfl
theorem z34 : tyB Go.Proofs.Try.prog 34 false 1 = true := by kernel_rfl
theorem i34 : (Go.Proofs.Try.prog.info? 34).map (fun i => (i.zero, i.size, i.bytes)) = some (some (.slice none 0 0), 1, 24) := by kernel_rfl
theorem z35 : tyB Go.Proofs.Try.prog 35 true 2 = true := by kernel_rfl
theorem i35 : (Go.Proofs.Try.prog.info? 35).map (fun i => (i.zero, i.size, i.bytes)) = some (some (.agg #[(.string ⟨#[]⟩), (.string ⟨#[]⟩)]), 2, 32) := by kernel_rfl
theorem p35 : placesB Go.Proofs.Try.prog 35 [(0, 1), (1, 1)] = true := by kernel_rfl
theorem q35_0 : fieldB Go.Proofs.Try.prog 35 0 0 = true := by kernel_rfl
theorem q35_1 : fieldB Go.Proofs.Try.prog 35 1 1 = true := by kernel_rfl
theorem z36 : tyB Go.Proofs.Try.prog 36 true 2 = true := by kernel_rfl
theorem i36 : (Go.Proofs.Try.prog.info? 36).map (fun i => (i.zero, i.size, i.bytes)) = some (some (.agg #[(.string ⟨#[]⟩), (.string ⟨#[]⟩)]), 2, 32) := by kernel_rfl
theorem p36 : placesB Go.Proofs.Try.prog 36 [(0, 1), (1, 1)] = true := by kernel_rfl
theorem q36_0 : fieldB Go.Proofs.Try.prog 36 0 0 = true := by kernel_rfl
theorem q36_1 : fieldB Go.Proofs.Try.prog 36 1 1 = true := by kernel_rfl
theorem z37 : tyB Go.Proofs.Try.prog 37 false 1 = true := by kernel_rfl
theorem i37 : (Go.Proofs.Try.prog.info? 37).map (fun i => (i.zero, i.size, i.bytes)) = some (some .nilFunc, 1, 8) := by kernel_rfl
theorem z38 : tyB Go.Proofs.Try.prog 38 false 1 = true := by kernel_rfl
theorem i38 : (Go.Proofs.Try.prog.info? 38).map (fun i => (i.zero, i.size, i.bytes)) = some (some .nilFunc, 1, 8) := by kernel_rfl
theorem z39 : tyB Go.Proofs.Try.prog 39 false 1 = true := by kernel_rfl
theorem i39 : (Go.Proofs.Try.prog.info? 39).map (fun i => (i.zero, i.size, i.bytes)) = some (some .nilFunc, 1, 8) := by kernel_rfl
theorem z41 : tyB Go.Proofs.Try.prog 41 false 1 = true := by kernel_rfl
theorem i41 : (Go.Proofs.Try.prog.info? 41).map (fun i => (i.zero, i.size, i.bytes)) = some (some .nilFunc, 1, 8) := by kernel_rfl
theorem z42 : tyB Go.Proofs.Try.prog 42 false 1 = true := by kernel_rfl
theorem i42 : (Go.Proofs.Try.prog.info? 42).map (fun i => (i.zero, i.size, i.bytes)) = some (some .nilFunc, 1, 8) := by kernel_rfl
theorem z43 : tyB Go.Proofs.Try.prog 43 false 1 = true := by kernel_rfl
theorem i43 : (Go.Proofs.Try.prog.info? 43).map (fun i => (i.zero, i.size, i.bytes)) = some (some .nilFunc, 1, 8) := by kernel_rfl
theorem z44 : tyB Go.Proofs.Try.prog 44 false 1 = true := by kernel_rfl
theorem i44 : (Go.Proofs.Try.prog.info? 44).map (fun i => (i.zero, i.size, i.bytes)) = some (some .nilFunc, 1, 8) := by kernel_rfl
theorem z45 : tyB Go.Proofs.Try.prog 45 false 1 = true := by kernel_rfl
theorem i45 : (Go.Proofs.Try.prog.info? 45).map (fun i => (i.zero, i.size, i.bytes)) = some (some .nilFunc, 1, 8) := by kernel_rfl
theorem z46 : tyB Go.Proofs.Try.prog 46 false 1 = true := by kernel_rfl
theorem i46 : (Go.Proofs.Try.prog.info? 46).map (fun i => (i.zero, i.size, i.bytes)) = some (some .nilFunc, 1, 8) := by kernel_rfl
theorem z47 : tyB Go.Proofs.Try.prog 47 false 1 = true := by kernel_rfl
theorem i47 : (Go.Proofs.Try.prog.info? 47).map (fun i => (i.zero, i.size, i.bytes)) = some (some (.pointer none), 1, 8) := by kernel_rfl
theorem z48 : tyB Go.Proofs.Try.prog 48 true 2 = true := by kernel_rfl
theorem i48 : (Go.Proofs.Try.prog.info? 48).map (fun i => (i.zero, i.size, i.bytes)) = some (some (.agg #[(.pointer none), (.slice none 0 0)]), 2, 32) := by kernel_rfl
theorem p48 : placesB Go.Proofs.Try.prog 48 [(0, 1), (1, 1)] = true := by kernel_rfl
theorem q48_0 : fieldB Go.Proofs.Try.prog 48 0 0 = true := by kernel_rfl
theorem q48_1 : fieldB Go.Proofs.Try.prog 48 1 1 = true := by kernel_rfl
theorem z49 : tyB Go.Proofs.Try.prog 49 true 2 = true := by kernel_rfl
theorem i49 : (Go.Proofs.Try.prog.info? 49).map (fun i => (i.zero, i.size, i.bytes)) = some (some (.agg #[(.pointer none), (.slice none 0 0)]), 2, 32) := by kernel_rfl
theorem p49 : placesB Go.Proofs.Try.prog 49 [(0, 1), (1, 1)] = true := by kernel_rfl
theorem q49_0 : fieldB Go.Proofs.Try.prog 49 0 0 = true := by kernel_rfl
theorem q49_1 : fieldB Go.Proofs.Try.prog 49 1 1 = true := by kernel_rfl
theorem z50 : tyB Go.Proofs.Try.prog 50 false 1 = true := by kernel_rfl
theorem i50 : (Go.Proofs.Try.prog.info? 50).map (fun i => (i.zero, i.size, i.bytes)) = some (some .nilIface, 1, 16) := by kernel_rfl
theorem z52 : tyB Go.Proofs.Try.prog 52 false 1 = true := by kernel_rfl
theorem i52 : (Go.Proofs.Try.prog.info? 52).map (fun i => (i.zero, i.size, i.bytes)) = some (some .nilFunc, 1, 8) := by kernel_rfl
theorem z54 : tyB Go.Proofs.Try.prog 54 false 1 = true := by kernel_rfl
theorem i54 : (Go.Proofs.Try.prog.info? 54).map (fun i => (i.zero, i.size, i.bytes)) = some (some .nilFunc, 1, 8) := by kernel_rfl
theorem z55 : tyB Go.Proofs.Try.prog 55 false 1 = true := by kernel_rfl
theorem i55 : (Go.Proofs.Try.prog.info? 55).map (fun i => (i.zero, i.size, i.bytes)) = some (some .nilFunc, 1, 8) := by kernel_rfl
theorem z56 : tyB Go.Proofs.Try.prog 56 false 1 = true := by kernel_rfl
theorem i56 : (Go.Proofs.Try.prog.info? 56).map (fun i => (i.zero, i.size, i.bytes)) = some (some .nilFunc, 1, 8) := by kernel_rfl
theorem z57 : tyB Go.Proofs.Try.prog 57 false 1 = true := by kernel_rfl
theorem i57 : (Go.Proofs.Try.prog.info? 57).map (fun i => (i.zero, i.size, i.bytes)) = some (some .nilFunc, 1, 8) := by kernel_rfl
theorem z58 : tyB Go.Proofs.Try.prog 58 false 1 = true := by kernel_rfl
theorem i58 : (Go.Proofs.Try.prog.info? 58).map (fun i => (i.zero, i.size, i.bytes)) = some (some .nilFunc, 1, 8) := by kernel_rfl
theorem z59 : tyB Go.Proofs.Try.prog 59 false 1 = true := by kernel_rfl
theorem i59 : (Go.Proofs.Try.prog.info? 59).map (fun i => (i.zero, i.size, i.bytes)) = some (some (.int .u64 0), 1, 8) := by kernel_rfl
theorem z60 : tyB Go.Proofs.Try.prog 60 false 1 = true := by kernel_rfl
theorem i60 : (Go.Proofs.Try.prog.info? 60).map (fun i => (i.zero, i.size, i.bytes)) = some (some (.pointer none), 1, 8) := by kernel_rfl
theorem z62 : tyB Go.Proofs.Try.prog 62 false 1 = true := by kernel_rfl
theorem i62 : (Go.Proofs.Try.prog.info? 62).map (fun i => (i.zero, i.size, i.bytes)) = some (some .nilFunc, 1, 8) := by kernel_rfl
theorem z63 : tyB Go.Proofs.Try.prog 63 true 4 = true := by kernel_rfl
theorem i63 : (Go.Proofs.Try.prog.info? 63).map (fun i => (i.zero, i.size, i.bytes)) = some (some (.agg #[(.pointer none), (.pointer none), (.pointer none), (.string ⟨#[]⟩)]), 4, 40) := by kernel_rfl
theorem p63 : placesB Go.Proofs.Try.prog 63 [(0, 1), (1, 1), (2, 1), (3, 1)] = true := by kernel_rfl
theorem q63_0 : fieldB Go.Proofs.Try.prog 63 0 0 = true := by kernel_rfl
theorem q63_1 : fieldB Go.Proofs.Try.prog 63 1 1 = true := by kernel_rfl
theorem q63_2 : fieldB Go.Proofs.Try.prog 63 2 2 = true := by kernel_rfl
theorem q63_3 : fieldB Go.Proofs.Try.prog 63 3 3 = true := by kernel_rfl
theorem z64 : tyB Go.Proofs.Try.prog 64 true 4 = true := by kernel_rfl
theorem i64 : (Go.Proofs.Try.prog.info? 64).map (fun i => (i.zero, i.size, i.bytes)) = some (some (.agg #[(.pointer none), (.pointer none), (.pointer none), (.string ⟨#[]⟩)]), 4, 40) := by kernel_rfl
theorem p64 : placesB Go.Proofs.Try.prog 64 [(0, 1), (1, 1), (2, 1), (3, 1)] = true := by kernel_rfl
theorem q64_0 : fieldB Go.Proofs.Try.prog 64 0 0 = true := by kernel_rfl
theorem q64_1 : fieldB Go.Proofs.Try.prog 64 1 1 = true := by kernel_rfl
theorem q64_2 : fieldB Go.Proofs.Try.prog 64 2 2 = true := by kernel_rfl
theorem q64_3 : fieldB Go.Proofs.Try.prog 64 3 3 = true := by kernel_rfl
theorem z65 : tyB Go.Proofs.Try.prog 65 true 0 = true := by kernel_rfl
theorem i65 : (Go.Proofs.Try.prog.info? 65).map (fun i => (i.zero, i.size, i.bytes)) = some (some (.agg #[]), 0, 0) := by kernel_rfl
theorem z66 : tyB Go.Proofs.Try.prog 66 true 0 = true := by kernel_rfl
theorem i66 : (Go.Proofs.Try.prog.info? 66).map (fun i => (i.zero, i.size, i.bytes)) = some (some (.agg #[]), 0, 0) := by kernel_rfl
theorem p66 : placesB Go.Proofs.Try.prog 66 [(0, 0)] = true := by kernel_rfl
theorem z67 : tyB Go.Proofs.Try.prog 67 true 0 = true := by kernel_rfl
theorem i67 : (Go.Proofs.Try.prog.info? 67).map (fun i => (i.zero, i.size, i.bytes)) = some (some (.agg #[]), 0, 0) := by kernel_rfl
theorem p67 : placesB Go.Proofs.Try.prog 67 [(0, 0)] = true := by kernel_rfl
theorem z68 : tyB Go.Proofs.Try.prog 68 false 1 = true := by kernel_rfl
theorem i68 : (Go.Proofs.Try.prog.info? 68).map (fun i => (i.zero, i.size, i.bytes)) = some (some (.int .u32 0), 1, 4) := by kernel_rfl
theorem z69 : tyB Go.Proofs.Try.prog 69 false 1 = true := by kernel_rfl
theorem i69 : (Go.Proofs.Try.prog.info? 69).map (fun i => (i.zero, i.size, i.bytes)) = some (some (.int .u8 0), 1, 1) := by kernel_rfl
theorem z70 : tyB Go.Proofs.Try.prog 70 false 1 = true := by kernel_rfl
theorem i70 : (Go.Proofs.Try.prog.info? 70).map (fun i => (i.zero, i.size, i.bytes)) = some (some (.int .u8 0), 1, 1) := by kernel_rfl
theorem z71 : tyB Go.Proofs.Try.prog 71 false 1 = true := by kernel_rfl
theorem i71 : (Go.Proofs.Try.prog.info? 71).map (fun i => (i.zero, i.size, i.bytes)) = some (some .nilFunc, 1, 8) := by kernel_rfl
theorem z72 : tyB Go.Proofs.Try.prog 72 false 1 = true := by kernel_rfl
theorem i72 : (Go.Proofs.Try.prog.info? 72).map (fun i => (i.zero, i.size, i.bytes)) = some (some (.int .i32 0), 1, 4) := by kernel_rfl
theorem z73 : tyB Go.Proofs.Try.prog 73 false 1 = true := by kernel_rfl
theorem i73 : (Go.Proofs.Try.prog.info? 73).map (fun i => (i.zero, i.size, i.bytes)) = some (some (.int .i32 0), 1, 4) := by kernel_rfl
theorem z74 : tyB Go.Proofs.Try.prog 74 true 11 = true := by kernel_rfl
theorem i74 : (Go.Proofs.Try.prog.info? 74).map (fun i => (i.zero, i.size, i.bytes)) = some (some (.agg #[(.int .u64 0), (.int .u64 0), (.int .u32 0), (.int .u8 0), (.int .u8 0), (.int .u8 0), (.int .u8 0), .nilFunc, (.pointer none), (.int .i32 0), (.int .i32 0)]), 11, 48) := by kernel_rfl
theorem p74 : placesB Go.Proofs.Try.prog 74 [(0, 1), (1, 1), (2, 1), (3, 1), (4, 1), (5, 1), (6, 1), (7, 1), (8, 1), (9, 1), (10, 1)] = true := by kernel_rfl
theorem q74_0 : fieldB Go.Proofs.Try.prog 74 0 0 = true := by kernel_rfl
theorem q74_1 : fieldB Go.Proofs.Try.prog 74 1 1 = true := by kernel_rfl
theorem q74_2 : fieldB Go.Proofs.Try.prog 74 2 2 = true := by kernel_rfl
theorem q74_3 : fieldB Go.Proofs.Try.prog 74 3 3 = true := by kernel_rfl
theorem q74_4 : fieldB Go.Proofs.Try.prog 74 4 4 = true := by kernel_rfl
theorem q74_5 : fieldB Go.Proofs.Try.prog 74 5 5 = true := by kernel_rfl
theorem q74_6 : fieldB Go.Proofs.Try.prog 74 6 6 = true := by kernel_rfl
theorem q74_7 : fieldB Go.Proofs.Try.prog 74 7 7 = true := by kernel_rfl
theorem q74_8 : fieldB Go.Proofs.Try.prog 74 8 8 = true := by kernel_rfl
theorem q74_9 : fieldB Go.Proofs.Try.prog 74 9 9 = true := by kernel_rfl
theorem q74_10 : fieldB Go.Proofs.Try.prog 74 10 10 = true := by kernel_rfl
theorem z75 : tyB Go.Proofs.Try.prog 75 true 11 = true := by kernel_rfl
theorem i75 : (Go.Proofs.Try.prog.info? 75).map (fun i => (i.zero, i.size, i.bytes)) = some (some (.agg #[(.int .u64 0), (.int .u64 0), (.int .u32 0), (.int .u8 0), (.int .u8 0), (.int .u8 0), (.int .u8 0), .nilFunc, (.pointer none), (.int .i32 0), (.int .i32 0)]), 11, 48) := by kernel_rfl
theorem p75 : placesB Go.Proofs.Try.prog 75 [(0, 1), (1, 1), (2, 1), (3, 1), (4, 1), (5, 1), (6, 1), (7, 1), (8, 1), (9, 1), (10, 1)] = true := by kernel_rfl
theorem q75_0 : fieldB Go.Proofs.Try.prog 75 0 0 = true := by kernel_rfl
theorem q75_1 : fieldB Go.Proofs.Try.prog 75 1 1 = true := by kernel_rfl
theorem q75_2 : fieldB Go.Proofs.Try.prog 75 2 2 = true := by kernel_rfl
theorem q75_3 : fieldB Go.Proofs.Try.prog 75 3 3 = true := by kernel_rfl
theorem q75_4 : fieldB Go.Proofs.Try.prog 75 4 4 = true := by kernel_rfl
theorem q75_5 : fieldB Go.Proofs.Try.prog 75 5 5 = true := by kernel_rfl
theorem q75_6 : fieldB Go.Proofs.Try.prog 75 6 6 = true := by kernel_rfl
theorem q75_7 : fieldB Go.Proofs.Try.prog 75 7 7 = true := by kernel_rfl
theorem q75_8 : fieldB Go.Proofs.Try.prog 75 8 8 = true := by kernel_rfl
theorem q75_9 : fieldB Go.Proofs.Try.prog 75 9 9 = true := by kernel_rfl
theorem q75_10 : fieldB Go.Proofs.Try.prog 75 10 10 = true := by kernel_rfl
theorem c2 : callB Go.Proofs.Try.prog 2 = true := by kernel_rfl
theorem c3 : callB Go.Proofs.Try.prog 3 = true := by kernel_rfl
theorem c4 : callB Go.Proofs.Try.prog 4 = true := by kernel_rfl
theorem c5 : callB Go.Proofs.Try.prog 5 = true := by kernel_rfl
theorem c6 : callB Go.Proofs.Try.prog 6 = true := by kernel_rfl
theorem c7 : callB Go.Proofs.Try.prog 7 = true := by kernel_rfl
theorem c8 : callB Go.Proofs.Try.prog 8 = true := by kernel_rfl
theorem c9 : callB Go.Proofs.Try.prog 9 = true := by kernel_rfl
theorem c10 : callB Go.Proofs.Try.prog 10 = true := by kernel_rfl
theorem c11 : callB Go.Proofs.Try.prog 11 = true := by kernel_rfl
theorem c12 : callB Go.Proofs.Try.prog 12 = true := by kernel_rfl
theorem c13 : callB Go.Proofs.Try.prog 13 = true := by kernel_rfl
theorem c14 : callB Go.Proofs.Try.prog 14 = true := by kernel_rfl
theorem c15 : callB Go.Proofs.Try.prog 15 = true := by kernel_rfl
theorem c16 : callB Go.Proofs.Try.prog 16 = true := by kernel_rfl
theorem c17 : callB Go.Proofs.Try.prog 17 = true := by kernel_rfl
theorem c18 : callB Go.Proofs.Try.prog 18 = true := by kernel_rfl
theorem c19 : callB Go.Proofs.Try.prog 19 = true := by kernel_rfl
theorem c20 : callB Go.Proofs.Try.prog 20 = true := by kernel_rfl
theorem c21 : callB Go.Proofs.Try.prog 21 = true := by kernel_rfl
theorem c22 : callB Go.Proofs.Try.prog 22 = true := by kernel_rfl
theorem c23 : callB Go.Proofs.Try.prog 23 = true := by kernel_rfl
theorem c24 : callB Go.Proofs.Try.prog 24 = true := by kernel_rfl
end Go.Proofs.Ytlpoepmipbegaaa.Ty
