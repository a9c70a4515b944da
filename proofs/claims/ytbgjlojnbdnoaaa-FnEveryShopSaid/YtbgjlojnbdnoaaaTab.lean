/- The layouts of the types; the entries of the functions. -/
import Derived.Test.YtbgjlojnbdnoaaaOps2
import Derived.Test.YtbgjlojnbdnoaaaProg
namespace Go.Proofs.Ytbgjlojnbdnoaaa
set_option maxRecDepth 100000
theorem ty0 : tyS Try.prog 0 = some none := by kernel_rfl
theorem in0 : inS Try.prog 0 = some (1, 0) := by kernel_rfl
theorem ty1 : tyS Try.prog 1 = some none := by kernel_rfl
theorem ze1 : zeroS Try.prog 1 = some [.nilFunc] := by kernel_rfl
theorem in1 : inS Try.prog 1 = some (1, 8) := by kernel_rfl
theorem ty2 : tyS Try.prog 2 = some none := by kernel_rfl
theorem ze2 : zeroS Try.prog 2 = some [.int .i64 0] := by kernel_rfl
theorem in2 : inS Try.prog 2 = some (1, 8) := by kernel_rfl
theorem ty3 : tyS Try.prog 3 = some none := by kernel_rfl
theorem ze3 : zeroS Try.prog 3 = some [.int .i64 0] := by kernel_rfl
theorem in3 : inS Try.prog 3 = some (1, 8) := by kernel_rfl
theorem ty4 : tyS Try.prog 4 = some none := by kernel_rfl
theorem ze4 : zeroS Try.prog 4 = some [.bool false] := by kernel_rfl
theorem in4 : inS Try.prog 4 = some (1, 1) := by kernel_rfl
theorem ty5 : tyS Try.prog 5 = some none := by kernel_rfl
theorem ze5 : zeroS Try.prog 5 = some [.int .u8 0] := by kernel_rfl
theorem in5 : inS Try.prog 5 = some (1, 1) := by kernel_rfl
theorem ty6 : tyS Try.prog 6 = some none := by kernel_rfl
theorem ze6 : zeroS Try.prog 6 = some [.int .u8 0] := by kernel_rfl
theorem in6 : inS Try.prog 6 = some (1, 1) := by kernel_rfl
theorem ty7 : tyS Try.prog 7 = some (some 4) := by kernel_rfl
theorem ze7 : zeroS Try.prog 7 = some [.int .i64 0, .int .i64 0, .bool false, .int .u8 0] := by kernel_rfl
theorem in7 : inS Try.prog 7 = some (4, 24) := by kernel_rfl
theorem pl7 : plS Try.prog 7 = some [(0, 1), (1, 1), (2, 1), (3, 1)] := by kernel_rfl
theorem st7 : isStruct Try.prog 7 = true := by kernel_rfl
theorem fl7_0 : fldS Try.prog 7 0 = some 0 := by kernel_rfl
theorem pt7_0 : partS Try.prog 7 0 = some (0, none) := by kernel_rfl
theorem fl7_1 : fldS Try.prog 7 1 = some 1 := by kernel_rfl
theorem pt7_1 : partS Try.prog 7 1 = some (1, none) := by kernel_rfl
theorem fl7_2 : fldS Try.prog 7 2 = some 2 := by kernel_rfl
theorem pt7_2 : partS Try.prog 7 2 = some (2, none) := by kernel_rfl
theorem fl7_3 : fldS Try.prog 7 3 = some 3 := by kernel_rfl
theorem pt7_3 : partS Try.prog 7 3 = some (3, none) := by kernel_rfl
theorem ty8 : tyS Try.prog 8 = some (some 4) := by kernel_rfl
theorem ze8 : zeroS Try.prog 8 = some [.int .i64 0, .int .i64 0, .bool false, .int .u8 0] := by kernel_rfl
theorem in8 : inS Try.prog 8 = some (4, 24) := by kernel_rfl
theorem pl8 : plS Try.prog 8 = some [(0, 1), (1, 1), (2, 1), (3, 1)] := by kernel_rfl
theorem st8 : isStruct Try.prog 8 = true := by kernel_rfl
theorem fl8_0 : fldS Try.prog 8 0 = some 0 := by kernel_rfl
theorem pt8_0 : partS Try.prog 8 0 = some (0, none) := by kernel_rfl
theorem fl8_1 : fldS Try.prog 8 1 = some 1 := by kernel_rfl
theorem pt8_1 : partS Try.prog 8 1 = some (1, none) := by kernel_rfl
theorem fl8_2 : fldS Try.prog 8 2 = some 2 := by kernel_rfl
theorem pt8_2 : partS Try.prog 8 2 = some (2, none) := by kernel_rfl
theorem fl8_3 : fldS Try.prog 8 3 = some 3 := by kernel_rfl
theorem pt8_3 : partS Try.prog 8 3 = some (3, none) := by kernel_rfl
theorem ty9 : tyS Try.prog 9 = some none := by kernel_rfl
theorem ze9 : zeroS Try.prog 9 = some [.string ⟨#[]⟩] := by kernel_rfl
theorem in9 : inS Try.prog 9 = some (1, 16) := by kernel_rfl
theorem ty10 : tyS Try.prog 10 = some none := by kernel_rfl
theorem ze10 : zeroS Try.prog 10 = some [.string ⟨#[]⟩] := by kernel_rfl
theorem in10 : inS Try.prog 10 = some (1, 16) := by kernel_rfl
theorem ty11 : tyS Try.prog 11 = some none := by kernel_rfl
theorem ze11 : zeroS Try.prog 11 = some [.string ⟨#[]⟩] := by kernel_rfl
theorem in11 : inS Try.prog 11 = some (1, 16) := by kernel_rfl
theorem ty12 : tyS Try.prog 12 = some none := by kernel_rfl
theorem ze12 : zeroS Try.prog 12 = some [.int .u64 0] := by kernel_rfl
theorem in12 : inS Try.prog 12 = some (1, 8) := by kernel_rfl
theorem ty13 : tyS Try.prog 13 = some (some 2) := by kernel_rfl
theorem ze13 : zeroS Try.prog 13 = some [.string ⟨#[]⟩, .int .u64 0] := by kernel_rfl
theorem in13 : inS Try.prog 13 = some (2, 24) := by kernel_rfl
theorem pl13 : plS Try.prog 13 = some [(0, 1), (1, 1)] := by kernel_rfl
theorem st13 : isStruct Try.prog 13 = true := by kernel_rfl
theorem fl13_0 : fldS Try.prog 13 0 = some 0 := by kernel_rfl
theorem pt13_0 : partS Try.prog 13 0 = some (0, none) := by kernel_rfl
theorem fl13_1 : fldS Try.prog 13 1 = some 1 := by kernel_rfl
theorem pt13_1 : partS Try.prog 13 1 = some (1, none) := by kernel_rfl
theorem ty14 : tyS Try.prog 14 = some (some 2) := by kernel_rfl
theorem ze14 : zeroS Try.prog 14 = some [.string ⟨#[]⟩, .int .u64 0] := by kernel_rfl
theorem in14 : inS Try.prog 14 = some (2, 24) := by kernel_rfl
theorem pl14 : plS Try.prog 14 = some [(0, 1), (1, 1)] := by kernel_rfl
theorem st14 : isStruct Try.prog 14 = true := by kernel_rfl
theorem fl14_0 : fldS Try.prog 14 0 = some 0 := by kernel_rfl
theorem pt14_0 : partS Try.prog 14 0 = some (0, none) := by kernel_rfl
theorem fl14_1 : fldS Try.prog 14 1 = some 1 := by kernel_rfl
theorem pt14_1 : partS Try.prog 14 1 = some (1, none) := by kernel_rfl
theorem ty15 : tyS Try.prog 15 = some none := by kernel_rfl
theorem ze15 : zeroS Try.prog 15 = some [.pointer none] := by kernel_rfl
theorem in15 : inS Try.prog 15 = some (1, 8) := by kernel_rfl
theorem ty16 : tyS Try.prog 16 = some none := by kernel_rfl
theorem ze16 : zeroS Try.prog 16 = some [.pointer none] := by kernel_rfl
theorem in16 : inS Try.prog 16 = some (1, 8) := by kernel_rfl
theorem ty17 : tyS Try.prog 17 = some none := by kernel_rfl
theorem ze17 : zeroS Try.prog 17 = some [.pointer none] := by kernel_rfl
theorem in17 : inS Try.prog 17 = some (1, 8) := by kernel_rfl
theorem ty18 : tyS Try.prog 18 = some (some 1) := by kernel_rfl
theorem ze18 : zeroS Try.prog 18 = some [.pointer none] := by kernel_rfl
theorem in18 : inS Try.prog 18 = some (1, 8) := by kernel_rfl
theorem pl18 : plS Try.prog 18 = some [(0, 1)] := by kernel_rfl
theorem st18 : isStruct Try.prog 18 = true := by kernel_rfl
theorem fl18_0 : fldS Try.prog 18 0 = some 0 := by kernel_rfl
theorem pt18_0 : partS Try.prog 18 0 = some (0, none) := by kernel_rfl
theorem ty19 : tyS Try.prog 19 = some (some 1) := by kernel_rfl
theorem ze19 : zeroS Try.prog 19 = some [.pointer none] := by kernel_rfl
theorem in19 : inS Try.prog 19 = some (1, 8) := by kernel_rfl
theorem pl19 : plS Try.prog 19 = some [(0, 1)] := by kernel_rfl
theorem st19 : isStruct Try.prog 19 = true := by kernel_rfl
theorem fl19_0 : fldS Try.prog 19 0 = some 0 := by kernel_rfl
theorem pt19_0 : partS Try.prog 19 0 = some (0, none) := by kernel_rfl
theorem ty20 : tyS Try.prog 20 = some none := by kernel_rfl
theorem ze20 : zeroS Try.prog 20 = some [.nilIface] := by kernel_rfl
theorem in20 : inS Try.prog 20 = some (1, 16) := by kernel_rfl
theorem ty21 : tyS Try.prog 21 = some none := by kernel_rfl
theorem ze21 : zeroS Try.prog 21 = some [.int .i32 0] := by kernel_rfl
theorem in21 : inS Try.prog 21 = some (1, 4) := by kernel_rfl
theorem ty22 : tyS Try.prog 22 = some (some 2) := by kernel_rfl
theorem ze22 : zeroS Try.prog 22 = some [.string ⟨#[]⟩, .string ⟨#[]⟩] := by kernel_rfl
theorem in22 : inS Try.prog 22 = some (2, 32) := by kernel_rfl
theorem pl22 : plS Try.prog 22 = some [(0, 1), (1, 1)] := by kernel_rfl
theorem st22 : isStruct Try.prog 22 = true := by kernel_rfl
theorem fl22_0 : fldS Try.prog 22 0 = some 0 := by kernel_rfl
theorem pt22_0 : partS Try.prog 22 0 = some (0, none) := by kernel_rfl
theorem fl22_1 : fldS Try.prog 22 1 = some 1 := by kernel_rfl
theorem pt22_1 : partS Try.prog 22 1 = some (1, none) := by kernel_rfl
theorem ty23 : tyS Try.prog 23 = some (some 2) := by kernel_rfl
theorem ze23 : zeroS Try.prog 23 = some [.string ⟨#[]⟩, .string ⟨#[]⟩] := by kernel_rfl
theorem in23 : inS Try.prog 23 = some (2, 32) := by kernel_rfl
theorem pl23 : plS Try.prog 23 = some [(0, 1), (1, 1)] := by kernel_rfl
theorem st23 : isStruct Try.prog 23 = true := by kernel_rfl
theorem fl23_0 : fldS Try.prog 23 0 = some 0 := by kernel_rfl
theorem pt23_0 : partS Try.prog 23 0 = some (0, none) := by kernel_rfl
theorem fl23_1 : fldS Try.prog 23 1 = some 1 := by kernel_rfl
theorem pt23_1 : partS Try.prog 23 1 = some (1, none) := by kernel_rfl
theorem ty24 : tyS Try.prog 24 = some none := by kernel_rfl
theorem ze24 : zeroS Try.prog 24 = some [.nilFunc] := by kernel_rfl
theorem in24 : inS Try.prog 24 = some (1, 8) := by kernel_rfl
theorem ty25 : tyS Try.prog 25 = some none := by kernel_rfl
theorem ze25 : zeroS Try.prog 25 = some [.nilFunc] := by kernel_rfl
theorem in25 : inS Try.prog 25 = some (1, 8) := by kernel_rfl
theorem ty26 : tyS Try.prog 26 = some (some 2) := by kernel_rfl
theorem ze26 : zeroS Try.prog 26 = some [.string ⟨#[]⟩, .string ⟨#[]⟩] := by kernel_rfl
theorem in26 : inS Try.prog 26 = some (2, 32) := by kernel_rfl
theorem pl26 : plS Try.prog 26 = some [(0, 1), (1, 1)] := by kernel_rfl
theorem st26 : isStruct Try.prog 26 = true := by kernel_rfl
theorem fl26_0 : fldS Try.prog 26 0 = some 0 := by kernel_rfl
theorem pt26_0 : partS Try.prog 26 0 = some (0, none) := by kernel_rfl
theorem fl26_1 : fldS Try.prog 26 1 = some 1 := by kernel_rfl
theorem pt26_1 : partS Try.prog 26 1 = some (1, none) := by kernel_rfl
theorem ty27 : tyS Try.prog 27 = some none := by kernel_rfl
theorem ze27 : zeroS Try.prog 27 = some [.nilFunc] := by kernel_rfl
theorem in27 : inS Try.prog 27 = some (1, 8) := by kernel_rfl
theorem ty28 : tyS Try.prog 28 = some none := by kernel_rfl
theorem ze28 : zeroS Try.prog 28 = some [.nilFunc] := by kernel_rfl
theorem in28 : inS Try.prog 28 = some (1, 8) := by kernel_rfl
theorem ty29 : tyS Try.prog 29 = some none := by kernel_rfl
theorem ze29 : zeroS Try.prog 29 = some [.slice none 0 0] := by kernel_rfl
theorem in29 : inS Try.prog 29 = some (1, 24) := by kernel_rfl
theorem el29 : elS Try.prog 29 = some (41, 5) := by kernel_rfl
theorem ty30 : tyS Try.prog 30 = some (some 4) := by kernel_rfl
theorem ze30 : zeroS Try.prog 30 = some [.int .i64 0, .int .i64 0, .slice none 0 0, .int .i64 0] := by kernel_rfl
theorem in30 : inS Try.prog 30 = some (4, 48) := by kernel_rfl
theorem pl30 : plS Try.prog 30 = some [(0, 1), (1, 1), (2, 1), (3, 1)] := by kernel_rfl
theorem st30 : isStruct Try.prog 30 = true := by kernel_rfl
theorem fl30_0 : fldS Try.prog 30 0 = some 0 := by kernel_rfl
theorem pt30_0 : partS Try.prog 30 0 = some (0, none) := by kernel_rfl
theorem fl30_1 : fldS Try.prog 30 1 = some 1 := by kernel_rfl
theorem pt30_1 : partS Try.prog 30 1 = some (1, none) := by kernel_rfl
theorem fl30_2 : fldS Try.prog 30 2 = some 2 := by kernel_rfl
theorem pt30_2 : partS Try.prog 30 2 = some (2, none) := by kernel_rfl
theorem fl30_3 : fldS Try.prog 30 3 = some 3 := by kernel_rfl
theorem pt30_3 : partS Try.prog 30 3 = some (3, none) := by kernel_rfl
theorem ty31 : tyS Try.prog 31 = some (some 4) := by kernel_rfl
theorem ze31 : zeroS Try.prog 31 = some [.int .i64 0, .int .i64 0, .slice none 0 0, .int .i64 0] := by kernel_rfl
theorem in31 : inS Try.prog 31 = some (4, 48) := by kernel_rfl
theorem pl31 : plS Try.prog 31 = some [(0, 1), (1, 1), (2, 1), (3, 1)] := by kernel_rfl
theorem st31 : isStruct Try.prog 31 = true := by kernel_rfl
theorem fl31_0 : fldS Try.prog 31 0 = some 0 := by kernel_rfl
theorem pt31_0 : partS Try.prog 31 0 = some (0, none) := by kernel_rfl
theorem fl31_1 : fldS Try.prog 31 1 = some 1 := by kernel_rfl
theorem pt31_1 : partS Try.prog 31 1 = some (1, none) := by kernel_rfl
theorem fl31_2 : fldS Try.prog 31 2 = some 2 := by kernel_rfl
theorem pt31_2 : partS Try.prog 31 2 = some (2, none) := by kernel_rfl
theorem fl31_3 : fldS Try.prog 31 3 = some 3 := by kernel_rfl
theorem pt31_3 : partS Try.prog 31 3 = some (3, none) := by kernel_rfl
theorem ty32 : tyS Try.prog 32 = some none := by kernel_rfl
theorem ze32 : zeroS Try.prog 32 = some [.slice none 0 0] := by kernel_rfl
theorem in32 : inS Try.prog 32 = some (1, 24) := by kernel_rfl
theorem el32 : elS Try.prog 32 = some (37, 3) := by kernel_rfl
theorem ty33 : tyS Try.prog 33 = some none := by kernel_rfl
theorem in33 : inS Try.prog 33 = some (1, 0) := by kernel_rfl
theorem ty34 : tyS Try.prog 34 = some none := by kernel_rfl
theorem ze34 : zeroS Try.prog 34 = some [.nilFunc] := by kernel_rfl
theorem in34 : inS Try.prog 34 = some (1, 8) := by kernel_rfl
theorem ty35 : tyS Try.prog 35 = some none := by kernel_rfl
theorem ze35 : zeroS Try.prog 35 = some [.nilFunc] := by kernel_rfl
theorem in35 : inS Try.prog 35 = some (1, 8) := by kernel_rfl
theorem ty36 : tyS Try.prog 36 = some (some 3) := by kernel_rfl
theorem ze36 : zeroS Try.prog 36 = some [.int .i64 0, .int .i64 0, .int .i64 0] := by kernel_rfl
theorem in36 : inS Try.prog 36 = some (3, 24) := by kernel_rfl
theorem pl36 : plS Try.prog 36 = some [(0, 1), (1, 1), (2, 1)] := by kernel_rfl
theorem st36 : isStruct Try.prog 36 = true := by kernel_rfl
theorem fl36_0 : fldS Try.prog 36 0 = some 0 := by kernel_rfl
theorem pt36_0 : partS Try.prog 36 0 = some (0, none) := by kernel_rfl
theorem fl36_1 : fldS Try.prog 36 1 = some 1 := by kernel_rfl
theorem pt36_1 : partS Try.prog 36 1 = some (1, none) := by kernel_rfl
theorem fl36_2 : fldS Try.prog 36 2 = some 2 := by kernel_rfl
theorem pt36_2 : partS Try.prog 36 2 = some (2, none) := by kernel_rfl
theorem ty37 : tyS Try.prog 37 = some (some 3) := by kernel_rfl
theorem ze37 : zeroS Try.prog 37 = some [.int .i64 0, .int .i64 0, .int .i64 0] := by kernel_rfl
theorem in37 : inS Try.prog 37 = some (3, 24) := by kernel_rfl
theorem pl37 : plS Try.prog 37 = some [(0, 1), (1, 1), (2, 1)] := by kernel_rfl
theorem st37 : isStruct Try.prog 37 = true := by kernel_rfl
theorem fl37_0 : fldS Try.prog 37 0 = some 0 := by kernel_rfl
theorem pt37_0 : partS Try.prog 37 0 = some (0, none) := by kernel_rfl
theorem fl37_1 : fldS Try.prog 37 1 = some 1 := by kernel_rfl
theorem pt37_1 : partS Try.prog 37 1 = some (1, none) := by kernel_rfl
theorem fl37_2 : fldS Try.prog 37 2 = some 2 := by kernel_rfl
theorem pt37_2 : partS Try.prog 37 2 = some (2, none) := by kernel_rfl
theorem ty38 : tyS Try.prog 38 = some none := by kernel_rfl
theorem in38 : inS Try.prog 38 = some (1, 0) := by kernel_rfl
theorem ty39 : tyS Try.prog 39 = some none := by kernel_rfl
theorem ze39 : zeroS Try.prog 39 = some [.nilFunc] := by kernel_rfl
theorem in39 : inS Try.prog 39 = some (1, 8) := by kernel_rfl
theorem ty40 : tyS Try.prog 40 = some (some 5) := by kernel_rfl
theorem ze40 : zeroS Try.prog 40 = some [.int .i64 0, .int .i64 0, .int .i64 0, .int .i64 0, .int .i64 0] := by kernel_rfl
theorem in40 : inS Try.prog 40 = some (5, 40) := by kernel_rfl
theorem pl40 : plS Try.prog 40 = some [(0, 1), (1, 1), (2, 1), (3, 1), (4, 1)] := by kernel_rfl
theorem st40 : isStruct Try.prog 40 = true := by kernel_rfl
theorem fl40_0 : fldS Try.prog 40 0 = some 0 := by kernel_rfl
theorem pt40_0 : partS Try.prog 40 0 = some (0, none) := by kernel_rfl
theorem fl40_1 : fldS Try.prog 40 1 = some 1 := by kernel_rfl
theorem pt40_1 : partS Try.prog 40 1 = some (1, none) := by kernel_rfl
theorem fl40_2 : fldS Try.prog 40 2 = some 2 := by kernel_rfl
theorem pt40_2 : partS Try.prog 40 2 = some (2, none) := by kernel_rfl
theorem fl40_3 : fldS Try.prog 40 3 = some 3 := by kernel_rfl
theorem pt40_3 : partS Try.prog 40 3 = some (3, none) := by kernel_rfl
theorem fl40_4 : fldS Try.prog 40 4 = some 4 := by kernel_rfl
theorem pt40_4 : partS Try.prog 40 4 = some (4, none) := by kernel_rfl
theorem ty41 : tyS Try.prog 41 = some (some 5) := by kernel_rfl
theorem ze41 : zeroS Try.prog 41 = some [.int .i64 0, .int .i64 0, .int .i64 0, .int .i64 0, .int .i64 0] := by kernel_rfl
theorem in41 : inS Try.prog 41 = some (5, 40) := by kernel_rfl
theorem pl41 : plS Try.prog 41 = some [(0, 1), (1, 1), (2, 1), (3, 1), (4, 1)] := by kernel_rfl
theorem st41 : isStruct Try.prog 41 = true := by kernel_rfl
theorem fl41_0 : fldS Try.prog 41 0 = some 0 := by kernel_rfl
theorem pt41_0 : partS Try.prog 41 0 = some (0, none) := by kernel_rfl
theorem fl41_1 : fldS Try.prog 41 1 = some 1 := by kernel_rfl
theorem pt41_1 : partS Try.prog 41 1 = some (1, none) := by kernel_rfl
theorem fl41_2 : fldS Try.prog 41 2 = some 2 := by kernel_rfl
theorem pt41_2 : partS Try.prog 41 2 = some (2, none) := by kernel_rfl
theorem fl41_3 : fldS Try.prog 41 3 = some 3 := by kernel_rfl
theorem pt41_3 : partS Try.prog 41 3 = some (3, none) := by kernel_rfl
theorem fl41_4 : fldS Try.prog 41 4 = some 4 := by kernel_rfl
theorem pt41_4 : partS Try.prog 41 4 = some (4, none) := by kernel_rfl
theorem ty42 : tyS Try.prog 42 = some none := by kernel_rfl
theorem ze42 : zeroS Try.prog 42 = some [.nilFunc] := by kernel_rfl
theorem in42 : inS Try.prog 42 = some (1, 8) := by kernel_rfl
theorem ty43 : tyS Try.prog 43 = some none := by kernel_rfl
theorem ze43 : zeroS Try.prog 43 = some [.slice none 0 0] := by kernel_rfl
theorem in43 : inS Try.prog 43 = some (1, 24) := by kernel_rfl
theorem el43 : elS Try.prog 43 = some (5, 1) := by kernel_rfl
theorem ty44 : tyS Try.prog 44 = some none := by kernel_rfl
theorem ze44 : zeroS Try.prog 44 = some [.nilFunc] := by kernel_rfl
theorem in44 : inS Try.prog 44 = some (1, 8) := by kernel_rfl
theorem ty45 : tyS Try.prog 45 = some none := by kernel_rfl
theorem in45 : inS Try.prog 45 = some (1, 0) := by kernel_rfl
theorem ty46 : tyS Try.prog 46 = some none := by kernel_rfl
theorem ze46 : zeroS Try.prog 46 = some [.nilFunc] := by kernel_rfl
theorem in46 : inS Try.prog 46 = some (1, 8) := by kernel_rfl
theorem ty47 : tyS Try.prog 47 = some none := by kernel_rfl
theorem ze47 : zeroS Try.prog 47 = some [.nilFunc] := by kernel_rfl
theorem in47 : inS Try.prog 47 = some (1, 8) := by kernel_rfl
theorem ty48 : tyS Try.prog 48 = some none := by kernel_rfl
theorem in48 : inS Try.prog 48 = some (1, 0) := by kernel_rfl
theorem ty49 : tyS Try.prog 49 = some none := by kernel_rfl
theorem ze49 : zeroS Try.prog 49 = some [.nilFunc] := by kernel_rfl
theorem in49 : inS Try.prog 49 = some (1, 8) := by kernel_rfl
theorem ty50 : tyS Try.prog 50 = some none := by kernel_rfl
theorem in50 : inS Try.prog 50 = some (1, 0) := by kernel_rfl
theorem ty51 : tyS Try.prog 51 = some none := by kernel_rfl
theorem ze51 : zeroS Try.prog 51 = some [.nilFunc] := by kernel_rfl
theorem in51 : inS Try.prog 51 = some (1, 8) := by kernel_rfl
theorem ty52 : tyS Try.prog 52 = some none := by kernel_rfl
theorem ze52 : zeroS Try.prog 52 = some [.nilFunc] := by kernel_rfl
theorem in52 : inS Try.prog 52 = some (1, 8) := by kernel_rfl
theorem ty53 : tyS Try.prog 53 = some none := by kernel_rfl
theorem ze53 : zeroS Try.prog 53 = some [.nilFunc] := by kernel_rfl
theorem in53 : inS Try.prog 53 = some (1, 8) := by kernel_rfl
theorem ty54 : tyS Try.prog 54 = some none := by kernel_rfl
theorem ze54 : zeroS Try.prog 54 = some [.nilFunc] := by kernel_rfl
theorem in54 : inS Try.prog 54 = some (1, 8) := by kernel_rfl
theorem ty55 : tyS Try.prog 55 = some none := by kernel_rfl
theorem ze55 : zeroS Try.prog 55 = some [.nilFunc] := by kernel_rfl
theorem in55 : inS Try.prog 55 = some (1, 8) := by kernel_rfl
theorem ty56 : tyS Try.prog 56 = some none := by kernel_rfl
theorem ze56 : zeroS Try.prog 56 = some [.nilFunc] := by kernel_rfl
theorem in56 : inS Try.prog 56 = some (1, 8) := by kernel_rfl
theorem ty57 : tyS Try.prog 57 = some none := by kernel_rfl
theorem ze57 : zeroS Try.prog 57 = some [.nilFunc] := by kernel_rfl
theorem in57 : inS Try.prog 57 = some (1, 8) := by kernel_rfl
theorem ty58 : tyS Try.prog 58 = some none := by kernel_rfl
theorem ze58 : zeroS Try.prog 58 = some [.nilFunc] := by kernel_rfl
theorem in58 : inS Try.prog 58 = some (1, 8) := by kernel_rfl
theorem ty59 : tyS Try.prog 59 = some none := by kernel_rfl
theorem ze59 : zeroS Try.prog 59 = some [.nilFunc] := by kernel_rfl
theorem in59 : inS Try.prog 59 = some (1, 8) := by kernel_rfl
theorem ty60 : tyS Try.prog 60 = some none := by kernel_rfl
theorem ze60 : zeroS Try.prog 60 = some [.nilFunc] := by kernel_rfl
theorem in60 : inS Try.prog 60 = some (1, 8) := by kernel_rfl
theorem ty61 : tyS Try.prog 61 = some none := by kernel_rfl
theorem ze61 : zeroS Try.prog 61 = some [.pointer none] := by kernel_rfl
theorem in61 : inS Try.prog 61 = some (1, 8) := by kernel_rfl
theorem ty62 : tyS Try.prog 62 = some none := by kernel_rfl
theorem ze62 : zeroS Try.prog 62 = some [.int .u64 0] := by kernel_rfl
theorem in62 : inS Try.prog 62 = some (1, 8) := by kernel_rfl
theorem ty63 : tyS Try.prog 63 = some (some 3) := by kernel_rfl
theorem ze63 : zeroS Try.prog 63 = some [.slice none 0 0, .int .i64 0, .int .u64 0] := by kernel_rfl
theorem in63 : inS Try.prog 63 = some (3, 40) := by kernel_rfl
theorem pl63 : plS Try.prog 63 = some [(0, 1), (1, 1), (2, 1)] := by kernel_rfl
theorem st63 : isStruct Try.prog 63 = true := by kernel_rfl
theorem fl63_0 : fldS Try.prog 63 0 = some 0 := by kernel_rfl
theorem pt63_0 : partS Try.prog 63 0 = some (0, none) := by kernel_rfl
theorem fl63_1 : fldS Try.prog 63 1 = some 1 := by kernel_rfl
theorem pt63_1 : partS Try.prog 63 1 = some (1, none) := by kernel_rfl
theorem fl63_2 : fldS Try.prog 63 2 = some 2 := by kernel_rfl
theorem pt63_2 : partS Try.prog 63 2 = some (2, none) := by kernel_rfl
theorem ty64 : tyS Try.prog 64 = some (some 3) := by kernel_rfl
theorem ze64 : zeroS Try.prog 64 = some [.slice none 0 0, .int .i64 0, .int .u64 0] := by kernel_rfl
theorem in64 : inS Try.prog 64 = some (3, 40) := by kernel_rfl
theorem pl64 : plS Try.prog 64 = some [(0, 1), (1, 1), (2, 1)] := by kernel_rfl
theorem st64 : isStruct Try.prog 64 = true := by kernel_rfl
theorem fl64_0 : fldS Try.prog 64 0 = some 0 := by kernel_rfl
theorem pt64_0 : partS Try.prog 64 0 = some (0, none) := by kernel_rfl
theorem fl64_1 : fldS Try.prog 64 1 = some 1 := by kernel_rfl
theorem pt64_1 : partS Try.prog 64 1 = some (1, none) := by kernel_rfl
theorem fl64_2 : fldS Try.prog 64 2 = some 2 := by kernel_rfl
theorem pt64_2 : partS Try.prog 64 2 = some (2, none) := by kernel_rfl
theorem ty65 : tyS Try.prog 65 = some none := by kernel_rfl
theorem ze65 : zeroS Try.prog 65 = some [.nilFunc] := by kernel_rfl
theorem in65 : inS Try.prog 65 = some (1, 8) := by kernel_rfl
theorem ty66 : tyS Try.prog 66 = some none := by kernel_rfl
theorem ze66 : zeroS Try.prog 66 = some [.nilFunc] := by kernel_rfl
theorem in66 : inS Try.prog 66 = some (1, 8) := by kernel_rfl
theorem ty67 : tyS Try.prog 67 = some none := by kernel_rfl
theorem ze67 : zeroS Try.prog 67 = some [.nilFunc] := by kernel_rfl
theorem in67 : inS Try.prog 67 = some (1, 8) := by kernel_rfl
theorem ty68 : tyS Try.prog 68 = some none := by kernel_rfl
theorem ze68 : zeroS Try.prog 68 = some [.nilFunc] := by kernel_rfl
theorem in68 : inS Try.prog 68 = some (1, 8) := by kernel_rfl
theorem ty69 : tyS Try.prog 69 = some none := by kernel_rfl
theorem ze69 : zeroS Try.prog 69 = some [.nilFunc] := by kernel_rfl
theorem in69 : inS Try.prog 69 = some (1, 8) := by kernel_rfl
theorem ty70 : tyS Try.prog 70 = some none := by kernel_rfl
theorem ze70 : zeroS Try.prog 70 = some [.nilFunc] := by kernel_rfl
theorem in70 : inS Try.prog 70 = some (1, 8) := by kernel_rfl
theorem ty71 : tyS Try.prog 71 = some none := by kernel_rfl
theorem ze71 : zeroS Try.prog 71 = some [.slice none 0 0] := by kernel_rfl
theorem in71 : inS Try.prog 71 = some (1, 24) := by kernel_rfl
theorem el71 : elS Try.prog 71 = some (3, 1) := by kernel_rfl
theorem ty72 : tyS Try.prog 72 = some none := by kernel_rfl
theorem ze72 : zeroS Try.prog 72 = some [.nilFunc] := by kernel_rfl
theorem in72 : inS Try.prog 72 = some (1, 8) := by kernel_rfl
theorem ty73 : tyS Try.prog 73 = some none := by kernel_rfl
theorem ze73 : zeroS Try.prog 73 = some [.nilFunc] := by kernel_rfl
theorem in73 : inS Try.prog 73 = some (1, 8) := by kernel_rfl
theorem ty74 : tyS Try.prog 74 = some none := by kernel_rfl
theorem ze74 : zeroS Try.prog 74 = some [.nilFunc] := by kernel_rfl
theorem in74 : inS Try.prog 74 = some (1, 8) := by kernel_rfl
theorem ty75 : tyS Try.prog 75 = some none := by kernel_rfl
theorem ze75 : zeroS Try.prog 75 = some [.nilFunc] := by kernel_rfl
theorem in75 : inS Try.prog 75 = some (1, 8) := by kernel_rfl
theorem ty76 : tyS Try.prog 76 = some none := by kernel_rfl
theorem ze76 : zeroS Try.prog 76 = some [.nilFunc] := by kernel_rfl
theorem in76 : inS Try.prog 76 = some (1, 8) := by kernel_rfl
theorem ty77 : tyS Try.prog 77 = some none := by kernel_rfl
theorem ze77 : zeroS Try.prog 77 = some [.nilFunc] := by kernel_rfl
theorem in77 : inS Try.prog 77 = some (1, 8) := by kernel_rfl
theorem ty78 : tyS Try.prog 78 = some none := by kernel_rfl
theorem ze78 : zeroS Try.prog 78 = some [.nilFunc] := by kernel_rfl
theorem in78 : inS Try.prog 78 = some (1, 8) := by kernel_rfl
theorem ty79 : tyS Try.prog 79 = some none := by kernel_rfl
theorem ze79 : zeroS Try.prog 79 = some [.nilFunc] := by kernel_rfl
theorem in79 : inS Try.prog 79 = some (1, 8) := by kernel_rfl
theorem ty80 : tyS Try.prog 80 = some none := by kernel_rfl
theorem ze80 : zeroS Try.prog 80 = some [.nilFunc] := by kernel_rfl
theorem in80 : inS Try.prog 80 = some (1, 8) := by kernel_rfl
theorem ty81 : tyS Try.prog 81 = some none := by kernel_rfl
theorem ze81 : zeroS Try.prog 81 = some [.nilFunc] := by kernel_rfl
theorem in81 : inS Try.prog 81 = some (1, 8) := by kernel_rfl
theorem ty82 : tyS Try.prog 82 = some none := by kernel_rfl
theorem in82 : inS Try.prog 82 = some (1, 0) := by kernel_rfl
theorem ty83 : tyS Try.prog 83 = some none := by kernel_rfl
theorem ze83 : zeroS Try.prog 83 = some [.nilFunc] := by kernel_rfl
theorem in83 : inS Try.prog 83 = some (1, 8) := by kernel_rfl
theorem ty84 : tyS Try.prog 84 = some none := by kernel_rfl
theorem ze84 : zeroS Try.prog 84 = some [.nilFunc] := by kernel_rfl
theorem in84 : inS Try.prog 84 = some (1, 8) := by kernel_rfl
theorem ty85 : tyS Try.prog 85 = some none := by kernel_rfl
theorem ze85 : zeroS Try.prog 85 = some [.nilFunc] := by kernel_rfl
theorem in85 : inS Try.prog 85 = some (1, 8) := by kernel_rfl
theorem ty86 : tyS Try.prog 86 = some none := by kernel_rfl
theorem ze86 : zeroS Try.prog 86 = some [.nilFunc] := by kernel_rfl
theorem in86 : inS Try.prog 86 = some (1, 8) := by kernel_rfl
theorem ty87 : tyS Try.prog 87 = some none := by kernel_rfl
theorem ze87 : zeroS Try.prog 87 = some [.pointer none] := by kernel_rfl
theorem in87 : inS Try.prog 87 = some (1, 8) := by kernel_rfl
theorem ty88 : tyS Try.prog 88 = some none := by kernel_rfl
theorem ze88 : zeroS Try.prog 88 = some [.pointer none] := by kernel_rfl
theorem in88 : inS Try.prog 88 = some (1, 8) := by kernel_rfl
theorem ty89 : tyS Try.prog 89 = some none := by kernel_rfl
theorem ze89 : zeroS Try.prog 89 = some [.int .u64 0] := by kernel_rfl
theorem in89 : inS Try.prog 89 = some (1, 8) := by kernel_rfl
theorem ty90 : tyS Try.prog 90 = some none := by kernel_rfl
theorem ze90 : zeroS Try.prog 90 = some [.nilFunc] := by kernel_rfl
theorem in90 : inS Try.prog 90 = some (1, 8) := by kernel_rfl
theorem ty91 : tyS Try.prog 91 = some none := by kernel_rfl
theorem ze91 : zeroS Try.prog 91 = some [.nilFunc] := by kernel_rfl
theorem in91 : inS Try.prog 91 = some (1, 8) := by kernel_rfl
theorem ty92 : tyS Try.prog 92 = some none := by kernel_rfl
theorem ze92 : zeroS Try.prog 92 = some [.int .u32 0] := by kernel_rfl
theorem in92 : inS Try.prog 92 = some (1, 4) := by kernel_rfl
theorem ty93 : tyS Try.prog 93 = some none := by kernel_rfl
theorem in93 : inS Try.prog 93 = some (1, 0) := by kernel_rfl
theorem ty94 : tyS Try.prog 94 = some none := by kernel_rfl
theorem ze94 : zeroS Try.prog 94 = some [.nilFunc] := by kernel_rfl
theorem in94 : inS Try.prog 94 = some (1, 8) := by kernel_rfl
theorem ty95 : tyS Try.prog 95 = some none := by kernel_rfl
theorem ze95 : zeroS Try.prog 95 = some [.nilFunc] := by kernel_rfl
theorem in95 : inS Try.prog 95 = some (1, 8) := by kernel_rfl
theorem ty96 : tyS Try.prog 96 = some (some 4) := by kernel_rfl
theorem ze96 : zeroS Try.prog 96 = some [.pointer none, .pointer none, .pointer none, .string ⟨#[]⟩] := by kernel_rfl
theorem in96 : inS Try.prog 96 = some (4, 40) := by kernel_rfl
theorem pl96 : plS Try.prog 96 = some [(0, 1), (1, 1), (2, 1), (3, 1)] := by kernel_rfl
theorem st96 : isStruct Try.prog 96 = true := by kernel_rfl
theorem fl96_0 : fldS Try.prog 96 0 = some 0 := by kernel_rfl
theorem pt96_0 : partS Try.prog 96 0 = some (0, none) := by kernel_rfl
theorem fl96_1 : fldS Try.prog 96 1 = some 1 := by kernel_rfl
theorem pt96_1 : partS Try.prog 96 1 = some (1, none) := by kernel_rfl
theorem fl96_2 : fldS Try.prog 96 2 = some 2 := by kernel_rfl
theorem pt96_2 : partS Try.prog 96 2 = some (2, none) := by kernel_rfl
theorem fl96_3 : fldS Try.prog 96 3 = some 3 := by kernel_rfl
theorem pt96_3 : partS Try.prog 96 3 = some (3, none) := by kernel_rfl
theorem ty97 : tyS Try.prog 97 = some (some 4) := by kernel_rfl
theorem ze97 : zeroS Try.prog 97 = some [.pointer none, .pointer none, .pointer none, .string ⟨#[]⟩] := by kernel_rfl
theorem in97 : inS Try.prog 97 = some (4, 40) := by kernel_rfl
theorem pl97 : plS Try.prog 97 = some [(0, 1), (1, 1), (2, 1), (3, 1)] := by kernel_rfl
theorem st97 : isStruct Try.prog 97 = true := by kernel_rfl
theorem fl97_0 : fldS Try.prog 97 0 = some 0 := by kernel_rfl
theorem pt97_0 : partS Try.prog 97 0 = some (0, none) := by kernel_rfl
theorem fl97_1 : fldS Try.prog 97 1 = some 1 := by kernel_rfl
theorem pt97_1 : partS Try.prog 97 1 = some (1, none) := by kernel_rfl
theorem fl97_2 : fldS Try.prog 97 2 = some 2 := by kernel_rfl
theorem pt97_2 : partS Try.prog 97 2 = some (2, none) := by kernel_rfl
theorem fl97_3 : fldS Try.prog 97 3 = some 3 := by kernel_rfl
theorem pt97_3 : partS Try.prog 97 3 = some (3, none) := by kernel_rfl
theorem ty98 : tyS Try.prog 98 = some (some 0) := by kernel_rfl
theorem ze98 : zeroS Try.prog 98 = some [] := by kernel_rfl
theorem in98 : inS Try.prog 98 = some (0, 0) := by kernel_rfl
theorem ty99 : tyS Try.prog 99 = some (some 0) := by kernel_rfl
theorem ze99 : zeroS Try.prog 99 = some [] := by kernel_rfl
theorem in99 : inS Try.prog 99 = some (0, 0) := by kernel_rfl
theorem ty100 : tyS Try.prog 100 = some (some 0) := by kernel_rfl
theorem ze100 : zeroS Try.prog 100 = some [] := by kernel_rfl
theorem in100 : inS Try.prog 100 = some (0, 0) := by kernel_rfl
theorem ty101 : tyS Try.prog 101 = some none := by kernel_rfl
theorem ze101 : zeroS Try.prog 101 = some [.int .u8 0] := by kernel_rfl
theorem in101 : inS Try.prog 101 = some (1, 1) := by kernel_rfl
theorem ty102 : tyS Try.prog 102 = some none := by kernel_rfl
theorem ze102 : zeroS Try.prog 102 = some [.int .u8 0] := by kernel_rfl
theorem in102 : inS Try.prog 102 = some (1, 1) := by kernel_rfl
theorem ty103 : tyS Try.prog 103 = some none := by kernel_rfl
theorem ze103 : zeroS Try.prog 103 = some [.nilFunc] := by kernel_rfl
theorem in103 : inS Try.prog 103 = some (1, 8) := by kernel_rfl
theorem ty104 : tyS Try.prog 104 = some none := by kernel_rfl
theorem ze104 : zeroS Try.prog 104 = some [.pointer none] := by kernel_rfl
theorem in104 : inS Try.prog 104 = some (1, 8) := by kernel_rfl
theorem ty105 : tyS Try.prog 105 = some none := by kernel_rfl
theorem ze105 : zeroS Try.prog 105 = some [.int .i32 0] := by kernel_rfl
theorem in105 : inS Try.prog 105 = some (1, 4) := by kernel_rfl
theorem ty106 : tyS Try.prog 106 = some none := by kernel_rfl
theorem ze106 : zeroS Try.prog 106 = some [.int .i32 0] := by kernel_rfl
theorem in106 : inS Try.prog 106 = some (1, 4) := by kernel_rfl
theorem ty107 : tyS Try.prog 107 = some (some 11) := by kernel_rfl
theorem ze107 : zeroS Try.prog 107 = some [.int .u64 0, .int .u64 0, .int .u32 0, .int .u8 0, .int .u8 0, .int .u8 0, .int .u8 0, .nilFunc, .pointer none, .int .i32 0, .int .i32 0] := by kernel_rfl
theorem in107 : inS Try.prog 107 = some (11, 48) := by kernel_rfl
theorem pl107 : plS Try.prog 107 = some [(0, 1), (1, 1), (2, 1), (3, 1), (4, 1), (5, 1), (6, 1), (7, 1), (8, 1), (9, 1), (10, 1)] := by kernel_rfl
theorem st107 : isStruct Try.prog 107 = true := by kernel_rfl
theorem fl107_0 : fldS Try.prog 107 0 = some 0 := by kernel_rfl
theorem pt107_0 : partS Try.prog 107 0 = some (0, none) := by kernel_rfl
theorem fl107_1 : fldS Try.prog 107 1 = some 1 := by kernel_rfl
theorem pt107_1 : partS Try.prog 107 1 = some (1, none) := by kernel_rfl
theorem fl107_2 : fldS Try.prog 107 2 = some 2 := by kernel_rfl
theorem pt107_2 : partS Try.prog 107 2 = some (2, none) := by kernel_rfl
theorem fl107_3 : fldS Try.prog 107 3 = some 3 := by kernel_rfl
theorem pt107_3 : partS Try.prog 107 3 = some (3, none) := by kernel_rfl
theorem fl107_4 : fldS Try.prog 107 4 = some 4 := by kernel_rfl
theorem pt107_4 : partS Try.prog 107 4 = some (4, none) := by kernel_rfl
theorem fl107_5 : fldS Try.prog 107 5 = some 5 := by kernel_rfl
theorem pt107_5 : partS Try.prog 107 5 = some (5, none) := by kernel_rfl
theorem fl107_6 : fldS Try.prog 107 6 = some 6 := by kernel_rfl
theorem pt107_6 : partS Try.prog 107 6 = some (6, none) := by kernel_rfl
theorem fl107_7 : fldS Try.prog 107 7 = some 7 := by kernel_rfl
theorem pt107_7 : partS Try.prog 107 7 = some (7, none) := by kernel_rfl
theorem fl107_8 : fldS Try.prog 107 8 = some 8 := by kernel_rfl
theorem pt107_8 : partS Try.prog 107 8 = some (8, none) := by kernel_rfl
theorem fl107_9 : fldS Try.prog 107 9 = some 9 := by kernel_rfl
theorem pt107_9 : partS Try.prog 107 9 = some (9, none) := by kernel_rfl
theorem fl107_10 : fldS Try.prog 107 10 = some 10 := by kernel_rfl
theorem pt107_10 : partS Try.prog 107 10 = some (10, none) := by kernel_rfl
theorem ty108 : tyS Try.prog 108 = some (some 11) := by kernel_rfl
theorem ze108 : zeroS Try.prog 108 = some [.int .u64 0, .int .u64 0, .int .u32 0, .int .u8 0, .int .u8 0, .int .u8 0, .int .u8 0, .nilFunc, .pointer none, .int .i32 0, .int .i32 0] := by kernel_rfl
theorem in108 : inS Try.prog 108 = some (11, 48) := by kernel_rfl
theorem pl108 : plS Try.prog 108 = some [(0, 1), (1, 1), (2, 1), (3, 1), (4, 1), (5, 1), (6, 1), (7, 1), (8, 1), (9, 1), (10, 1)] := by kernel_rfl
theorem st108 : isStruct Try.prog 108 = true := by kernel_rfl
theorem fl108_0 : fldS Try.prog 108 0 = some 0 := by kernel_rfl
theorem pt108_0 : partS Try.prog 108 0 = some (0, none) := by kernel_rfl
theorem fl108_1 : fldS Try.prog 108 1 = some 1 := by kernel_rfl
theorem pt108_1 : partS Try.prog 108 1 = some (1, none) := by kernel_rfl
theorem fl108_2 : fldS Try.prog 108 2 = some 2 := by kernel_rfl
theorem pt108_2 : partS Try.prog 108 2 = some (2, none) := by kernel_rfl
theorem fl108_3 : fldS Try.prog 108 3 = some 3 := by kernel_rfl
theorem pt108_3 : partS Try.prog 108 3 = some (3, none) := by kernel_rfl
theorem fl108_4 : fldS Try.prog 108 4 = some 4 := by kernel_rfl
theorem pt108_4 : partS Try.prog 108 4 = some (4, none) := by kernel_rfl
theorem fl108_5 : fldS Try.prog 108 5 = some 5 := by kernel_rfl
theorem pt108_5 : partS Try.prog 108 5 = some (5, none) := by kernel_rfl
theorem fl108_6 : fldS Try.prog 108 6 = some 6 := by kernel_rfl
theorem pt108_6 : partS Try.prog 108 6 = some (6, none) := by kernel_rfl
theorem fl108_7 : fldS Try.prog 108 7 = some 7 := by kernel_rfl
theorem pt108_7 : partS Try.prog 108 7 = some (7, none) := by kernel_rfl
theorem fl108_8 : fldS Try.prog 108 8 = some 8 := by kernel_rfl
theorem pt108_8 : partS Try.prog 108 8 = some (8, none) := by kernel_rfl
theorem fl108_9 : fldS Try.prog 108 9 = some 9 := by kernel_rfl
theorem pt108_9 : partS Try.prog 108 9 = some (9, none) := by kernel_rfl
theorem fl108_10 : fldS Try.prog 108 10 = some 10 := by kernel_rfl
theorem pt108_10 : partS Try.prog 108 10 = some (10, none) := by kernel_rfl
theorem ty109 : tyS Try.prog 109 = some none := by kernel_rfl
theorem ze109 : zeroS Try.prog 109 = some [.pointer none] := by kernel_rfl
theorem in109 : inS Try.prog 109 = some (1, 8) := by kernel_rfl
theorem en3 : Enters Try.prog 3 := enters_of Try.func3 (by kernel_rfl) rfl
theorem en4 : Enters Try.prog 4 := enters_of Try.func4 (by kernel_rfl) rfl
theorem en5 : Enters Try.prog 5 := enters_of Try.func5 (by kernel_rfl) rfl
theorem en6 : Enters Try.prog 6 := enters_of Try.func6 (by kernel_rfl) rfl
theorem en7 : Enters Try.prog 7 := enters_of Try.func7 (by kernel_rfl) rfl
theorem en8 : Enters Try.prog 8 := enters_of Try.func8 (by kernel_rfl) rfl
theorem en9 : Enters Try.prog 9 := enters_of Try.func9 (by kernel_rfl) rfl
theorem en10 : Enters Try.prog 10 := enters_of Try.func10 (by kernel_rfl) rfl
theorem en11 : Enters Try.prog 11 := enters_of Try.func11 (by kernel_rfl) rfl
theorem en12 : Enters Try.prog 12 := enters_of Try.func12 (by kernel_rfl) rfl
theorem en13 : Enters Try.prog 13 := enters_of Try.func13 (by kernel_rfl) rfl
theorem en14 : Enters Try.prog 14 := enters_of Try.func14 (by kernel_rfl) rfl
theorem en15 : Enters Try.prog 15 := enters_of Try.func15 (by kernel_rfl) rfl
theorem en16 : Enters Try.prog 16 := enters_of Try.func16 (by kernel_rfl) rfl
theorem en17 : Enters Try.prog 17 := enters_of Try.func17 (by kernel_rfl) rfl
theorem en18 : Enters Try.prog 18 := enters_of Try.func18 (by kernel_rfl) rfl
theorem en19 : Enters Try.prog 19 := enters_of Try.func19 (by kernel_rfl) rfl
theorem en20 : Enters Try.prog 20 := enters_of Try.func20 (by kernel_rfl) rfl
theorem en21 : Enters Try.prog 21 := enters_of Try.func21 (by kernel_rfl) rfl
theorem en22 : Enters Try.prog 22 := enters_of Try.func22 (by kernel_rfl) rfl
theorem en23 : Enters Try.prog 23 := enters_of Try.func23 (by kernel_rfl) rfl
theorem en24 : Enters Try.prog 24 := enters_of Try.func24 (by kernel_rfl) rfl
theorem en25 : Enters Try.prog 25 := enters_of Try.func25 (by kernel_rfl) rfl
theorem en26 : Enters Try.prog 26 := enters_of Try.func26 (by kernel_rfl) rfl
theorem en27 : Enters Try.prog 27 := enters_of Try.func27 (by kernel_rfl) rfl
theorem en28 : Enters Try.prog 28 := enters_of Try.func28 (by kernel_rfl) rfl
theorem en29 : Enters Try.prog 29 := enters_of Try.func29 (by kernel_rfl) rfl
theorem en30 : Enters Try.prog 30 := enters_of Try.func30 (by kernel_rfl) rfl
theorem en31 : Enters Try.prog 31 := enters_of Try.func31 (by kernel_rfl) rfl
theorem en32 : Enters Try.prog 32 := enters_of Try.func32 (by kernel_rfl) rfl
theorem en33 : Enters Try.prog 33 := enters_of Try.func33 (by kernel_rfl) rfl
theorem en34 : Enters Try.prog 34 := enters_of Try.func34 (by kernel_rfl) rfl
theorem en35 : Enters Try.prog 35 := enters_of Try.func35 (by kernel_rfl) rfl
theorem en36 : Enters Try.prog 36 := enters_of Try.func36 (by kernel_rfl) rfl
theorem en37 : Enters Try.prog 37 := enters_of Try.func37 (by kernel_rfl) rfl
theorem en38 : Enters Try.prog 38 := enters_of Try.func38 (by kernel_rfl) rfl
theorem en39 : Enters Try.prog 39 := enters_of Try.func39 (by kernel_rfl) rfl
theorem en40 : Enters Try.prog 40 := enters_of Try.func40 (by kernel_rfl) rfl
theorem en41 : Enters Try.prog 41 := enters_of Try.func41 (by kernel_rfl) rfl
theorem en42 : Enters Try.prog 42 := enters_of Try.func42 (by kernel_rfl) rfl
theorem en43 : Enters Try.prog 43 := enters_of Try.func43 (by kernel_rfl) rfl
theorem en44 : Enters Try.prog 44 := enters_of Try.func44 (by kernel_rfl) rfl
theorem en45 : Enters Try.prog 45 := enters_of Try.func45 (by kernel_rfl) rfl
theorem en46 : Enters Try.prog 46 := enters_of Try.func46 (by kernel_rfl) rfl
theorem en47 : Enters Try.prog 47 := enters_of Try.func47 (by kernel_rfl) rfl
theorem en48 : Enters Try.prog 48 := enters_of Try.func48 (by kernel_rfl) rfl
theorem en49 : Enters Try.prog 49 := enters_of Try.func49 (by kernel_rfl) rfl
theorem en50 : Enters Try.prog 50 := enters_of Try.func50 (by kernel_rfl) rfl
theorem en51 : Enters Try.prog 51 := enters_of Try.func51 (by kernel_rfl) rfl
theorem en52 : Enters Try.prog 52 := enters_of Try.func52 (by kernel_rfl) rfl
theorem en53 : Enters Try.prog 53 := enters_of Try.func53 (by kernel_rfl) rfl
theorem en54 : Enters Try.prog 54 := enters_of Try.func54 (by kernel_rfl) rfl
theorem en55 : Enters Try.prog 55 := enters_of Try.func55 (by kernel_rfl) rfl
theorem en56 : Enters Try.prog 56 := enters_of Try.func56 (by kernel_rfl) rfl
theorem en57 : Enters Try.prog 57 := enters_of Try.func57 (by kernel_rfl) rfl
theorem en58 : Enters Try.prog 58 := enters_of Try.func58 (by kernel_rfl) rfl
theorem en59 : Enters Try.prog 59 := enters_of Try.func59 (by kernel_rfl) rfl
theorem en60 : Enters Try.prog 60 := enters_of Try.func60 (by kernel_rfl) rfl
theorem en61 : Enters Try.prog 61 := enters_of Try.func61 (by kernel_rfl) rfl
theorem en62 : Enters Try.prog 62 := enters_of Try.func62 (by kernel_rfl) rfl
theorem en63 : Enters Try.prog 63 := enters_of Try.func63 (by kernel_rfl) rfl
theorem en64 : Enters Try.prog 64 := enters_of Try.func64 (by kernel_rfl) rfl
theorem en65 : Enters Try.prog 65 := enters_of Try.func65 (by kernel_rfl) rfl
theorem en66 : Enters Try.prog 66 := enters_of Try.func66 (by kernel_rfl) rfl
theorem en68 : Enters Try.prog 68 := enters_of Try.func68 (by kernel_rfl) rfl
theorem en69 : Enters Try.prog 69 := enters_of Try.func69 (by kernel_rfl) rfl
theorem en71 : Enters Try.prog 71 := enters_of Try.func71 (by kernel_rfl) rfl
theorem follows : Try.prog.follows .mixedOrders = true := by kernel_rfl
end Go.Proofs.Ytbgjlojnbdnoaaa
