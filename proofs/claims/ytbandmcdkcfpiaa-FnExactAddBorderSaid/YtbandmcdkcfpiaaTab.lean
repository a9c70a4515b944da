/- The layouts of the types; the entries of the functions. -/
import Derived.Test.YtbandmcdkcfpiaaOps2
import Derived.Test.YtbandmcdkcfpiaaProg
namespace Go.Proofs.Ytbandmcdkcfpiaa
set_option maxRecDepth 100000
theorem ty0 : tyS Try.prog 0 = some none := by kernel_rfl
theorem in0 : inS Try.prog 0 = some (1, 0) := by kernel_rfl
theorem ty1 : tyS Try.prog 1 = some none := by kernel_rfl
theorem ze1 : zeroS Try.prog 1 = some [.nilFunc] := by kernel_rfl
theorem in1 : inS Try.prog 1 = some (1, 8) := by kernel_rfl
theorem ty2 : tyS Try.prog 2 = some none := by kernel_rfl
theorem ze2 : zeroS Try.prog 2 = some [.int .i64 0] := by kernel_rfl
theorem in2 : inS Try.prog 2 = some (1, 8) := by kernel_rfl
theorem ty3 : tyS Try.prog 3 = some none := by kernel_rfl
theorem ze3 : zeroS Try.prog 3 = some [.int .i64 0] := by kernel_rfl
theorem in3 : inS Try.prog 3 = some (1, 8) := by kernel_rfl
theorem ty4 : tyS Try.prog 4 = some none := by kernel_rfl
theorem ze4 : zeroS Try.prog 4 = some [.bool false] := by kernel_rfl
theorem in4 : inS Try.prog 4 = some (1, 1) := by kernel_rfl
theorem ty5 : tyS Try.prog 5 = some none := by kernel_rfl
theorem ze5 : zeroS Try.prog 5 = some [.int .u8 0] := by kernel_rfl
theorem in5 : inS Try.prog 5 = some (1, 1) := by kernel_rfl
theorem ty6 : tyS Try.prog 6 = some none := by kernel_rfl
theorem ze6 : zeroS Try.prog 6 = some [.int .u8 0] := by kernel_rfl
theorem in6 : inS Try.prog 6 = some (1, 1) := by kernel_rfl
theorem ty7 : tyS Try.prog 7 = some (some 4) := by kernel_rfl
theorem ze7 : zeroS Try.prog 7 = some [.int .i64 0, .int .i64 0, .bool false, .int .u8 0] := by kernel_rfl
theorem in7 : inS Try.prog 7 = some (4, 24) := by kernel_rfl
theorem pl7 : plS Try.prog 7 = some [(0, 1), (1, 1), (2, 1), (3, 1)] := by kernel_rfl
theorem st7 : isStruct Try.prog 7 = true := by kernel_rfl
theorem fl7_0 : fldS Try.prog 7 0 = some 0 := by kernel_rfl
theorem pt7_0 : partS Try.prog 7 0 = some (0, none) := by kernel_rfl
theorem fl7_1 : fldS Try.prog 7 1 = some 1 := by kernel_rfl
theorem pt7_1 : partS Try.prog 7 1 = some (1, none) := by kernel_rfl
theorem fl7_2 : fldS Try.prog 7 2 = some 2 := by kernel_rfl
theorem pt7_2 : partS Try.prog 7 2 = some (2, none) := by kernel_rfl
theorem fl7_3 : fldS Try.prog 7 3 = some 3 := by kernel_rfl
theorem pt7_3 : partS Try.prog 7 3 = some (3, none) := by kernel_rfl
theorem ty8 : tyS Try.prog 8 = some (some 4) := by kernel_rfl
theorem ze8 : zeroS Try.prog 8 = some [.int .i64 0, .int .i64 0, .bool false, .int .u8 0] := by kernel_rfl
theorem in8 : inS Try.prog 8 = some (4, 24) := by kernel_rfl
theorem pl8 : plS Try.prog 8 = some [(0, 1), (1, 1), (2, 1), (3, 1)] := by kernel_rfl
theorem st8 : isStruct Try.prog 8 = true := by kernel_rfl
theorem fl8_0 : fldS Try.prog 8 0 = some 0 := by kernel_rfl
theorem pt8_0 : partS Try.prog 8 0 = some (0, none) := by kernel_rfl
theorem fl8_1 : fldS Try.prog 8 1 = some 1 := by kernel_rfl
theorem pt8_1 : partS Try.prog 8 1 = some (1, none) := by kernel_rfl
theorem fl8_2 : fldS Try.prog 8 2 = some 2 := by kernel_rfl
theorem pt8_2 : partS Try.prog 8 2 = some (2, none) := by kernel_rfl
theorem fl8_3 : fldS Try.prog 8 3 = some 3 := by kernel_rfl
theorem pt8_3 : partS Try.prog 8 3 = some (3, none) := by kernel_rfl
theorem ty9 : tyS Try.prog 9 = some none := by kernel_rfl
theorem ze9 : zeroS Try.prog 9 = some [.string ⟨#[]⟩] := by kernel_rfl
theorem in9 : inS Try.prog 9 = some (1, 16) := by kernel_rfl
theorem ty10 : tyS Try.prog 10 = some none := by kernel_rfl
theorem ze10 : zeroS Try.prog 10 = some [.string ⟨#[]⟩] := by kernel_rfl
theorem in10 : inS Try.prog 10 = some (1, 16) := by kernel_rfl
theorem ty11 : tyS Try.prog 11 = some none := by kernel_rfl
theorem ze11 : zeroS Try.prog 11 = some [.string ⟨#[]⟩] := by kernel_rfl
theorem in11 : inS Try.prog 11 = some (1, 16) := by kernel_rfl
theorem ty12 : tyS Try.prog 12 = some none := by kernel_rfl
theorem ze12 : zeroS Try.prog 12 = some [.int .u64 0] := by kernel_rfl
theorem in12 : inS Try.prog 12 = some (1, 8) := by kernel_rfl
theorem ty13 : tyS Try.prog 13 = some (some 2) := by kernel_rfl
theorem ze13 : zeroS Try.prog 13 = some [.string ⟨#[]⟩, .int .u64 0] := by kernel_rfl
theorem in13 : inS Try.prog 13 = some (2, 24) := by kernel_rfl
theorem pl13 : plS Try.prog 13 = some [(0, 1), (1, 1)] := by kernel_rfl
theorem st13 : isStruct Try.prog 13 = true := by kernel_rfl
theorem fl13_0 : fldS Try.prog 13 0 = some 0 := by kernel_rfl
theorem pt13_0 : partS Try.prog 13 0 = some (0, none) := by kernel_rfl
theorem fl13_1 : fldS Try.prog 13 1 = some 1 := by kernel_rfl
theorem pt13_1 : partS Try.prog 13 1 = some (1, none) := by kernel_rfl
theorem ty14 : tyS Try.prog 14 = some (some 2) := by kernel_rfl
theorem ze14 : zeroS Try.prog 14 = some [.string ⟨#[]⟩, .int .u64 0] := by kernel_rfl
theorem in14 : inS Try.prog 14 = some (2, 24) := by kernel_rfl
theorem pl14 : plS Try.prog 14 = some [(0, 1), (1, 1)] := by kernel_rfl
theorem st14 : isStruct Try.prog 14 = true := by kernel_rfl
theorem fl14_0 : fldS Try.prog 14 0 = some 0 := by kernel_rfl
theorem pt14_0 : partS Try.prog 14 0 = some (0, none) := by kernel_rfl
theorem fl14_1 : fldS Try.prog 14 1 = some 1 := by kernel_rfl
theorem pt14_1 : partS Try.prog 14 1 = some (1, none) := by kernel_rfl
theorem ty15 : tyS Try.prog 15 = some none := by kernel_rfl
theorem ze15 : zeroS Try.prog 15 = some [.pointer none] := by kernel_rfl
theorem in15 : inS Try.prog 15 = some (1, 8) := by kernel_rfl
theorem ty16 : tyS Try.prog 16 = some none := by kernel_rfl
theorem ze16 : zeroS Try.prog 16 = some [.pointer none] := by kernel_rfl
theorem in16 : inS Try.prog 16 = some (1, 8) := by kernel_rfl
theorem ty17 : tyS Try.prog 17 = some none := by kernel_rfl
theorem ze17 : zeroS Try.prog 17 = some [.pointer none] := by kernel_rfl
theorem in17 : inS Try.prog 17 = some (1, 8) := by kernel_rfl
theorem ty18 : tyS Try.prog 18 = some (some 1) := by kernel_rfl
theorem ze18 : zeroS Try.prog 18 = some [.pointer none] := by kernel_rfl
theorem in18 : inS Try.prog 18 = some (1, 8) := by kernel_rfl
theorem pl18 : plS Try.prog 18 = some [(0, 1)] := by kernel_rfl
theorem st18 : isStruct Try.prog 18 = true := by kernel_rfl
theorem fl18_0 : fldS Try.prog 18 0 = some 0 := by kernel_rfl
theorem pt18_0 : partS Try.prog 18 0 = some (0, none) := by kernel_rfl
theorem ty19 : tyS Try.prog 19 = some (some 1) := by kernel_rfl
theorem ze19 : zeroS Try.prog 19 = some [.pointer none] := by kernel_rfl
theorem in19 : inS Try.prog 19 = some (1, 8) := by kernel_rfl
theorem pl19 : plS Try.prog 19 = some [(0, 1)] := by kernel_rfl
theorem st19 : isStruct Try.prog 19 = true := by kernel_rfl
theorem fl19_0 : fldS Try.prog 19 0 = some 0 := by kernel_rfl
theorem pt19_0 : partS Try.prog 19 0 = some (0, none) := by kernel_rfl
theorem ty20 : tyS Try.prog 20 = some none := by kernel_rfl
theorem ze20 : zeroS Try.prog 20 = some [.nilIface] := by kernel_rfl
theorem in20 : inS Try.prog 20 = some (1, 16) := by kernel_rfl
theorem ty21 : tyS Try.prog 21 = some none := by kernel_rfl
theorem ze21 : zeroS Try.prog 21 = some [.int .i32 0] := by kernel_rfl
theorem in21 : inS Try.prog 21 = some (1, 4) := by kernel_rfl
theorem ty22 : tyS Try.prog 22 = some none := by kernel_rfl
theorem ze22 : zeroS Try.prog 22 = some [.slice none 0 0] := by kernel_rfl
theorem in22 : inS Try.prog 22 = some (1, 24) := by kernel_rfl
theorem el22 : elS Try.prog 22 = some (3, 1) := by kernel_rfl
theorem ty23 : tyS Try.prog 23 = some (some 3) := by kernel_rfl
theorem ze23 : zeroS Try.prog 23 = some [.int .i64 0, .int .i64 0, .slice none 0 0] := by kernel_rfl
theorem in23 : inS Try.prog 23 = some (3, 40) := by kernel_rfl
theorem pl23 : plS Try.prog 23 = some [(0, 1), (1, 1), (2, 1)] := by kernel_rfl
theorem st23 : isStruct Try.prog 23 = true := by kernel_rfl
theorem fl23_0 : fldS Try.prog 23 0 = some 0 := by kernel_rfl
theorem pt23_0 : partS Try.prog 23 0 = some (0, none) := by kernel_rfl
theorem fl23_1 : fldS Try.prog 23 1 = some 1 := by kernel_rfl
theorem pt23_1 : partS Try.prog 23 1 = some (1, none) := by kernel_rfl
theorem fl23_2 : fldS Try.prog 23 2 = some 2 := by kernel_rfl
theorem pt23_2 : partS Try.prog 23 2 = some (2, none) := by kernel_rfl
theorem ty24 : tyS Try.prog 24 = some (some 3) := by kernel_rfl
theorem ze24 : zeroS Try.prog 24 = some [.int .i64 0, .int .i64 0, .slice none 0 0] := by kernel_rfl
theorem in24 : inS Try.prog 24 = some (3, 40) := by kernel_rfl
theorem pl24 : plS Try.prog 24 = some [(0, 1), (1, 1), (2, 1)] := by kernel_rfl
theorem st24 : isStruct Try.prog 24 = true := by kernel_rfl
theorem fl24_0 : fldS Try.prog 24 0 = some 0 := by kernel_rfl
theorem pt24_0 : partS Try.prog 24 0 = some (0, none) := by kernel_rfl
theorem fl24_1 : fldS Try.prog 24 1 = some 1 := by kernel_rfl
theorem pt24_1 : partS Try.prog 24 1 = some (1, none) := by kernel_rfl
theorem fl24_2 : fldS Try.prog 24 2 = some 2 := by kernel_rfl
theorem pt24_2 : partS Try.prog 24 2 = some (2, none) := by kernel_rfl
theorem ty25 : tyS Try.prog 25 = some none := by kernel_rfl
theorem ze25 : zeroS Try.prog 25 = some [.nilFunc] := by kernel_rfl
theorem in25 : inS Try.prog 25 = some (1, 8) := by kernel_rfl
theorem ty26 : tyS Try.prog 26 = some (some 3) := by kernel_rfl
theorem ze26 : zeroS Try.prog 26 = some [.int .i64 0, .int .i64 0, .slice none 0 0] := by kernel_rfl
theorem in26 : inS Try.prog 26 = some (3, 40) := by kernel_rfl
theorem pl26 : plS Try.prog 26 = some [(0, 1), (1, 1), (2, 1)] := by kernel_rfl
theorem st26 : isStruct Try.prog 26 = true := by kernel_rfl
theorem fl26_0 : fldS Try.prog 26 0 = some 0 := by kernel_rfl
theorem pt26_0 : partS Try.prog 26 0 = some (0, none) := by kernel_rfl
theorem fl26_1 : fldS Try.prog 26 1 = some 1 := by kernel_rfl
theorem pt26_1 : partS Try.prog 26 1 = some (1, none) := by kernel_rfl
theorem fl26_2 : fldS Try.prog 26 2 = some 2 := by kernel_rfl
theorem pt26_2 : partS Try.prog 26 2 = some (2, none) := by kernel_rfl
theorem ty27 : tyS Try.prog 27 = some none := by kernel_rfl
theorem in27 : inS Try.prog 27 = some (1, 0) := by kernel_rfl
theorem ty28 : tyS Try.prog 28 = some none := by kernel_rfl
theorem ze28 : zeroS Try.prog 28 = some [.nilFunc] := by kernel_rfl
theorem in28 : inS Try.prog 28 = some (1, 8) := by kernel_rfl
theorem ty29 : tyS Try.prog 29 = some none := by kernel_rfl
theorem ze29 : zeroS Try.prog 29 = some [.nilFunc] := by kernel_rfl
theorem in29 : inS Try.prog 29 = some (1, 8) := by kernel_rfl
theorem ty30 : tyS Try.prog 30 = some none := by kernel_rfl
theorem ze30 : zeroS Try.prog 30 = some [.nilFunc] := by kernel_rfl
theorem in30 : inS Try.prog 30 = some (1, 8) := by kernel_rfl
theorem ty31 : tyS Try.prog 31 = some none := by kernel_rfl
theorem ze31 : zeroS Try.prog 31 = some [.nilFunc] := by kernel_rfl
theorem in31 : inS Try.prog 31 = some (1, 8) := by kernel_rfl
theorem ty32 : tyS Try.prog 32 = some none := by kernel_rfl
theorem ze32 : zeroS Try.prog 32 = some [.nilFunc] := by kernel_rfl
theorem in32 : inS Try.prog 32 = some (1, 8) := by kernel_rfl
theorem ty33 : tyS Try.prog 33 = some none := by kernel_rfl
theorem ze33 : zeroS Try.prog 33 = some [.slice none 0 0] := by kernel_rfl
theorem in33 : inS Try.prog 33 = some (1, 24) := by kernel_rfl
theorem el33 : elS Try.prog 33 = some (5, 1) := by kernel_rfl
theorem ty34 : tyS Try.prog 34 = some none := by kernel_rfl
theorem ze34 : zeroS Try.prog 34 = some [.nilFunc] := by kernel_rfl
theorem in34 : inS Try.prog 34 = some (1, 8) := by kernel_rfl
theorem ty35 : tyS Try.prog 35 = some none := by kernel_rfl
theorem in35 : inS Try.prog 35 = some (1, 0) := by kernel_rfl
theorem ty36 : tyS Try.prog 36 = some none := by kernel_rfl
theorem ze36 : zeroS Try.prog 36 = some [.nilFunc] := by kernel_rfl
theorem in36 : inS Try.prog 36 = some (1, 8) := by kernel_rfl
theorem ty37 : tyS Try.prog 37 = some none := by kernel_rfl
theorem ze37 : zeroS Try.prog 37 = some [.nilFunc] := by kernel_rfl
theorem in37 : inS Try.prog 37 = some (1, 8) := by kernel_rfl
theorem ty38 : tyS Try.prog 38 = some none := by kernel_rfl
theorem in38 : inS Try.prog 38 = some (1, 0) := by kernel_rfl
theorem ty39 : tyS Try.prog 39 = some none := by kernel_rfl
theorem ze39 : zeroS Try.prog 39 = some [.nilFunc] := by kernel_rfl
theorem in39 : inS Try.prog 39 = some (1, 8) := by kernel_rfl
theorem ty40 : tyS Try.prog 40 = some none := by kernel_rfl
theorem in40 : inS Try.prog 40 = some (1, 0) := by kernel_rfl
theorem ty41 : tyS Try.prog 41 = some none := by kernel_rfl
theorem ze41 : zeroS Try.prog 41 = some [.nilFunc] := by kernel_rfl
theorem in41 : inS Try.prog 41 = some (1, 8) := by kernel_rfl
theorem ty42 : tyS Try.prog 42 = some none := by kernel_rfl
theorem in42 : inS Try.prog 42 = some (1, 0) := by kernel_rfl
theorem ty43 : tyS Try.prog 43 = some none := by kernel_rfl
theorem ze43 : zeroS Try.prog 43 = some [.nilFunc] := by kernel_rfl
theorem in43 : inS Try.prog 43 = some (1, 8) := by kernel_rfl
theorem ty44 : tyS Try.prog 44 = some none := by kernel_rfl
theorem in44 : inS Try.prog 44 = some (1, 0) := by kernel_rfl
theorem ty45 : tyS Try.prog 45 = some none := by kernel_rfl
theorem ze45 : zeroS Try.prog 45 = some [.nilFunc] := by kernel_rfl
theorem in45 : inS Try.prog 45 = some (1, 8) := by kernel_rfl
theorem ty46 : tyS Try.prog 46 = some none := by kernel_rfl
theorem ze46 : zeroS Try.prog 46 = some [.nilFunc] := by kernel_rfl
theorem in46 : inS Try.prog 46 = some (1, 8) := by kernel_rfl
theorem ty47 : tyS Try.prog 47 = some none := by kernel_rfl
theorem in47 : inS Try.prog 47 = some (1, 0) := by kernel_rfl
theorem ty48 : tyS Try.prog 48 = some none := by kernel_rfl
theorem ze48 : zeroS Try.prog 48 = some [.nilFunc] := by kernel_rfl
theorem in48 : inS Try.prog 48 = some (1, 8) := by kernel_rfl
theorem ty49 : tyS Try.prog 49 = some none := by kernel_rfl
theorem ze49 : zeroS Try.prog 49 = some [.nilFunc] := by kernel_rfl
theorem in49 : inS Try.prog 49 = some (1, 8) := by kernel_rfl
theorem ty50 : tyS Try.prog 50 = some none := by kernel_rfl
theorem ze50 : zeroS Try.prog 50 = some [.nilFunc] := by kernel_rfl
theorem in50 : inS Try.prog 50 = some (1, 8) := by kernel_rfl
theorem ty51 : tyS Try.prog 51 = some none := by kernel_rfl
theorem ze51 : zeroS Try.prog 51 = some [.nilFunc] := by kernel_rfl
theorem in51 : inS Try.prog 51 = some (1, 8) := by kernel_rfl
theorem ty52 : tyS Try.prog 52 = some none := by kernel_rfl
theorem ze52 : zeroS Try.prog 52 = some [.nilFunc] := by kernel_rfl
theorem in52 : inS Try.prog 52 = some (1, 8) := by kernel_rfl
theorem ty53 : tyS Try.prog 53 = some none := by kernel_rfl
theorem ze53 : zeroS Try.prog 53 = some [.nilFunc] := by kernel_rfl
theorem in53 : inS Try.prog 53 = some (1, 8) := by kernel_rfl
theorem ty54 : tyS Try.prog 54 = some none := by kernel_rfl
theorem ze54 : zeroS Try.prog 54 = some [.nilFunc] := by kernel_rfl
theorem in54 : inS Try.prog 54 = some (1, 8) := by kernel_rfl
theorem ty55 : tyS Try.prog 55 = some none := by kernel_rfl
theorem ze55 : zeroS Try.prog 55 = some [.nilFunc] := by kernel_rfl
theorem in55 : inS Try.prog 55 = some (1, 8) := by kernel_rfl
theorem ty56 : tyS Try.prog 56 = some none := by kernel_rfl
theorem ze56 : zeroS Try.prog 56 = some [.nilFunc] := by kernel_rfl
theorem in56 : inS Try.prog 56 = some (1, 8) := by kernel_rfl
theorem ty57 : tyS Try.prog 57 = some none := by kernel_rfl
theorem in57 : inS Try.prog 57 = some (1, 0) := by kernel_rfl
theorem ty58 : tyS Try.prog 58 = some none := by kernel_rfl
theorem ze58 : zeroS Try.prog 58 = some [.nilFunc] := by kernel_rfl
theorem in58 : inS Try.prog 58 = some (1, 8) := by kernel_rfl
theorem ty59 : tyS Try.prog 59 = some none := by kernel_rfl
theorem ze59 : zeroS Try.prog 59 = some [.nilFunc] := by kernel_rfl
theorem in59 : inS Try.prog 59 = some (1, 8) := by kernel_rfl
theorem ty60 : tyS Try.prog 60 = some none := by kernel_rfl
theorem ze60 : zeroS Try.prog 60 = some [.nilFunc] := by kernel_rfl
theorem in60 : inS Try.prog 60 = some (1, 8) := by kernel_rfl
theorem ty61 : tyS Try.prog 61 = some none := by kernel_rfl
theorem in61 : inS Try.prog 61 = some (1, 0) := by kernel_rfl
theorem ty62 : tyS Try.prog 62 = some none := by kernel_rfl
theorem ze62 : zeroS Try.prog 62 = some [.nilFunc] := by kernel_rfl
theorem in62 : inS Try.prog 62 = some (1, 8) := by kernel_rfl
theorem ty63 : tyS Try.prog 63 = some none := by kernel_rfl
theorem in63 : inS Try.prog 63 = some (1, 0) := by kernel_rfl
theorem ty64 : tyS Try.prog 64 = some none := by kernel_rfl
theorem ze64 : zeroS Try.prog 64 = some [.nilFunc] := by kernel_rfl
theorem in64 : inS Try.prog 64 = some (1, 8) := by kernel_rfl
theorem ty65 : tyS Try.prog 65 = some none := by kernel_rfl
theorem ze65 : zeroS Try.prog 65 = some [.nilFunc] := by kernel_rfl
theorem in65 : inS Try.prog 65 = some (1, 8) := by kernel_rfl
theorem ty66 : tyS Try.prog 66 = some none := by kernel_rfl
theorem in66 : inS Try.prog 66 = some (1, 0) := by kernel_rfl
theorem ty67 : tyS Try.prog 67 = some none := by kernel_rfl
theorem ze67 : zeroS Try.prog 67 = some [.nilFunc] := by kernel_rfl
theorem in67 : inS Try.prog 67 = some (1, 8) := by kernel_rfl
theorem ty68 : tyS Try.prog 68 = some none := by kernel_rfl
theorem ze68 : zeroS Try.prog 68 = some [.nilFunc] := by kernel_rfl
theorem in68 : inS Try.prog 68 = some (1, 8) := by kernel_rfl
theorem ty69 : tyS Try.prog 69 = some none := by kernel_rfl
theorem ze69 : zeroS Try.prog 69 = some [.slice none 0 0] := by kernel_rfl
theorem in69 : inS Try.prog 69 = some (1, 24) := by kernel_rfl
theorem el69 : elS Try.prog 69 = some (73, 2) := by kernel_rfl
theorem ty70 : tyS Try.prog 70 = some none := by kernel_rfl
theorem in70 : inS Try.prog 70 = some (1, 0) := by kernel_rfl
theorem ty71 : tyS Try.prog 71 = some none := by kernel_rfl
theorem ze71 : zeroS Try.prog 71 = some [.nilFunc] := by kernel_rfl
theorem in71 : inS Try.prog 71 = some (1, 8) := by kernel_rfl
theorem ty72 : tyS Try.prog 72 = some none := by kernel_rfl
theorem ze72 : zeroS Try.prog 72 = some [.nilFunc] := by kernel_rfl
theorem in72 : inS Try.prog 72 = some (1, 8) := by kernel_rfl
theorem ty73 : tyS Try.prog 73 = some (some 2) := by kernel_rfl
theorem ze73 : zeroS Try.prog 73 = some [.int .i64 0, .int .i64 0] := by kernel_rfl
theorem in73 : inS Try.prog 73 = some (2, 16) := by kernel_rfl
theorem ty74 : tyS Try.prog 74 = some none := by kernel_rfl
theorem in74 : inS Try.prog 74 = some (1, 0) := by kernel_rfl
theorem ty75 : tyS Try.prog 75 = some none := by kernel_rfl
theorem ze75 : zeroS Try.prog 75 = some [.nilFunc] := by kernel_rfl
theorem in75 : inS Try.prog 75 = some (1, 8) := by kernel_rfl
theorem ty76 : tyS Try.prog 76 = some none := by kernel_rfl
theorem ze76 : zeroS Try.prog 76 = some [.nilFunc] := by kernel_rfl
theorem in76 : inS Try.prog 76 = some (1, 8) := by kernel_rfl
theorem ty77 : tyS Try.prog 77 = some none := by kernel_rfl
theorem ze77 : zeroS Try.prog 77 = some [.nilFunc] := by kernel_rfl
theorem in77 : inS Try.prog 77 = some (1, 8) := by kernel_rfl
theorem ty78 : tyS Try.prog 78 = some none := by kernel_rfl
theorem in78 : inS Try.prog 78 = some (1, 0) := by kernel_rfl
theorem ty79 : tyS Try.prog 79 = some none := by kernel_rfl
theorem ze79 : zeroS Try.prog 79 = some [.nilFunc] := by kernel_rfl
theorem in79 : inS Try.prog 79 = some (1, 8) := by kernel_rfl
theorem ty80 : tyS Try.prog 80 = some none := by kernel_rfl
theorem ze80 : zeroS Try.prog 80 = some [.nilFunc] := by kernel_rfl
theorem in80 : inS Try.prog 80 = some (1, 8) := by kernel_rfl
theorem ty81 : tyS Try.prog 81 = some none := by kernel_rfl
theorem ze81 : zeroS Try.prog 81 = some [.nilFunc] := by kernel_rfl
theorem in81 : inS Try.prog 81 = some (1, 8) := by kernel_rfl
theorem ty82 : tyS Try.prog 82 = some none := by kernel_rfl
theorem ze82 : zeroS Try.prog 82 = some [.nilFunc] := by kernel_rfl
theorem in82 : inS Try.prog 82 = some (1, 8) := by kernel_rfl
theorem ty83 : tyS Try.prog 83 = some none := by kernel_rfl
theorem ze83 : zeroS Try.prog 83 = some [.nilFunc] := by kernel_rfl
theorem in83 : inS Try.prog 83 = some (1, 8) := by kernel_rfl
theorem ty84 : tyS Try.prog 84 = some none := by kernel_rfl
theorem ze84 : zeroS Try.prog 84 = some [.nilFunc] := by kernel_rfl
theorem in84 : inS Try.prog 84 = some (1, 8) := by kernel_rfl
theorem ty85 : tyS Try.prog 85 = some none := by kernel_rfl
theorem ze85 : zeroS Try.prog 85 = some [.nilFunc] := by kernel_rfl
theorem in85 : inS Try.prog 85 = some (1, 8) := by kernel_rfl
theorem ty86 : tyS Try.prog 86 = some none := by kernel_rfl
theorem ze86 : zeroS Try.prog 86 = some [.nilFunc] := by kernel_rfl
theorem in86 : inS Try.prog 86 = some (1, 8) := by kernel_rfl
theorem ty87 : tyS Try.prog 87 = some none := by kernel_rfl
theorem ze87 : zeroS Try.prog 87 = some [.nilFunc] := by kernel_rfl
theorem in87 : inS Try.prog 87 = some (1, 8) := by kernel_rfl
theorem ty88 : tyS Try.prog 88 = some none := by kernel_rfl
theorem ze88 : zeroS Try.prog 88 = some [.nilFunc] := by kernel_rfl
theorem in88 : inS Try.prog 88 = some (1, 8) := by kernel_rfl
theorem ty89 : tyS Try.prog 89 = some none := by kernel_rfl
theorem ze89 : zeroS Try.prog 89 = some [.nilFunc] := by kernel_rfl
theorem in89 : inS Try.prog 89 = some (1, 8) := by kernel_rfl
theorem ty90 : tyS Try.prog 90 = some none := by kernel_rfl
theorem ze90 : zeroS Try.prog 90 = some [.pointer none] := by kernel_rfl
theorem in90 : inS Try.prog 90 = some (1, 8) := by kernel_rfl
theorem ty91 : tyS Try.prog 91 = some none := by kernel_rfl
theorem ze91 : zeroS Try.prog 91 = some [.int .u64 0] := by kernel_rfl
theorem in91 : inS Try.prog 91 = some (1, 8) := by kernel_rfl
theorem ty92 : tyS Try.prog 92 = some (some 3) := by kernel_rfl
theorem ze92 : zeroS Try.prog 92 = some [.slice none 0 0, .int .i64 0, .int .u64 0] := by kernel_rfl
theorem in92 : inS Try.prog 92 = some (3, 40) := by kernel_rfl
theorem pl92 : plS Try.prog 92 = some [(0, 1), (1, 1), (2, 1)] := by kernel_rfl
theorem st92 : isStruct Try.prog 92 = true := by kernel_rfl
theorem fl92_0 : fldS Try.prog 92 0 = some 0 := by kernel_rfl
theorem pt92_0 : partS Try.prog 92 0 = some (0, none) := by kernel_rfl
theorem fl92_1 : fldS Try.prog 92 1 = some 1 := by kernel_rfl
theorem pt92_1 : partS Try.prog 92 1 = some (1, none) := by kernel_rfl
theorem fl92_2 : fldS Try.prog 92 2 = some 2 := by kernel_rfl
theorem pt92_2 : partS Try.prog 92 2 = some (2, none) := by kernel_rfl
theorem ty93 : tyS Try.prog 93 = some (some 3) := by kernel_rfl
theorem ze93 : zeroS Try.prog 93 = some [.slice none 0 0, .int .i64 0, .int .u64 0] := by kernel_rfl
theorem in93 : inS Try.prog 93 = some (3, 40) := by kernel_rfl
theorem pl93 : plS Try.prog 93 = some [(0, 1), (1, 1), (2, 1)] := by kernel_rfl
theorem st93 : isStruct Try.prog 93 = true := by kernel_rfl
theorem fl93_0 : fldS Try.prog 93 0 = some 0 := by kernel_rfl
theorem pt93_0 : partS Try.prog 93 0 = some (0, none) := by kernel_rfl
theorem fl93_1 : fldS Try.prog 93 1 = some 1 := by kernel_rfl
theorem pt93_1 : partS Try.prog 93 1 = some (1, none) := by kernel_rfl
theorem fl93_2 : fldS Try.prog 93 2 = some 2 := by kernel_rfl
theorem pt93_2 : partS Try.prog 93 2 = some (2, none) := by kernel_rfl
theorem ty94 : tyS Try.prog 94 = some none := by kernel_rfl
theorem ze94 : zeroS Try.prog 94 = some [.nilFunc] := by kernel_rfl
theorem in94 : inS Try.prog 94 = some (1, 8) := by kernel_rfl
theorem ty95 : tyS Try.prog 95 = some none := by kernel_rfl
theorem ze95 : zeroS Try.prog 95 = some [.nilFunc] := by kernel_rfl
theorem in95 : inS Try.prog 95 = some (1, 8) := by kernel_rfl
theorem ty96 : tyS Try.prog 96 = some none := by kernel_rfl
theorem ze96 : zeroS Try.prog 96 = some [.nilFunc] := by kernel_rfl
theorem in96 : inS Try.prog 96 = some (1, 8) := by kernel_rfl
theorem ty97 : tyS Try.prog 97 = some none := by kernel_rfl
theorem ze97 : zeroS Try.prog 97 = some [.nilFunc] := by kernel_rfl
theorem in97 : inS Try.prog 97 = some (1, 8) := by kernel_rfl
theorem ty98 : tyS Try.prog 98 = some none := by kernel_rfl
theorem ze98 : zeroS Try.prog 98 = some [.nilFunc] := by kernel_rfl
theorem in98 : inS Try.prog 98 = some (1, 8) := by kernel_rfl
theorem ty99 : tyS Try.prog 99 = some none := by kernel_rfl
theorem ze99 : zeroS Try.prog 99 = some [.nilFunc] := by kernel_rfl
theorem in99 : inS Try.prog 99 = some (1, 8) := by kernel_rfl
theorem ty100 : tyS Try.prog 100 = some none := by kernel_rfl
theorem ze100 : zeroS Try.prog 100 = some [.nilFunc] := by kernel_rfl
theorem in100 : inS Try.prog 100 = some (1, 8) := by kernel_rfl
theorem ty101 : tyS Try.prog 101 = some none := by kernel_rfl
theorem ze101 : zeroS Try.prog 101 = some [.nilFunc] := by kernel_rfl
theorem in101 : inS Try.prog 101 = some (1, 8) := by kernel_rfl
theorem ty102 : tyS Try.prog 102 = some none := by kernel_rfl
theorem ze102 : zeroS Try.prog 102 = some [.nilFunc] := by kernel_rfl
theorem in102 : inS Try.prog 102 = some (1, 8) := by kernel_rfl
theorem ty103 : tyS Try.prog 103 = some none := by kernel_rfl
theorem ze103 : zeroS Try.prog 103 = some [.nilFunc] := by kernel_rfl
theorem in103 : inS Try.prog 103 = some (1, 8) := by kernel_rfl
theorem ty104 : tyS Try.prog 104 = some none := by kernel_rfl
theorem ze104 : zeroS Try.prog 104 = some [.nilFunc] := by kernel_rfl
theorem in104 : inS Try.prog 104 = some (1, 8) := by kernel_rfl
theorem ty105 : tyS Try.prog 105 = some none := by kernel_rfl
theorem ze105 : zeroS Try.prog 105 = some [.nilFunc] := by kernel_rfl
theorem in105 : inS Try.prog 105 = some (1, 8) := by kernel_rfl
theorem ty106 : tyS Try.prog 106 = some none := by kernel_rfl
theorem ze106 : zeroS Try.prog 106 = some [.nilFunc] := by kernel_rfl
theorem in106 : inS Try.prog 106 = some (1, 8) := by kernel_rfl
theorem ty107 : tyS Try.prog 107 = some none := by kernel_rfl
theorem ze107 : zeroS Try.prog 107 = some [.nilFunc] := by kernel_rfl
theorem in107 : inS Try.prog 107 = some (1, 8) := by kernel_rfl
theorem ty108 : tyS Try.prog 108 = some none := by kernel_rfl
theorem ze108 : zeroS Try.prog 108 = some [.nilFunc] := by kernel_rfl
theorem in108 : inS Try.prog 108 = some (1, 8) := by kernel_rfl
theorem ty109 : tyS Try.prog 109 = some none := by kernel_rfl
theorem ze109 : zeroS Try.prog 109 = some [.nilFunc] := by kernel_rfl
theorem in109 : inS Try.prog 109 = some (1, 8) := by kernel_rfl
theorem ty110 : tyS Try.prog 110 = some none := by kernel_rfl
theorem ze110 : zeroS Try.prog 110 = some [.nilFunc] := by kernel_rfl
theorem in110 : inS Try.prog 110 = some (1, 8) := by kernel_rfl
theorem ty111 : tyS Try.prog 111 = some none := by kernel_rfl
theorem in111 : inS Try.prog 111 = some (1, 0) := by kernel_rfl
theorem ty112 : tyS Try.prog 112 = some none := by kernel_rfl
theorem ze112 : zeroS Try.prog 112 = some [.nilFunc] := by kernel_rfl
theorem in112 : inS Try.prog 112 = some (1, 8) := by kernel_rfl
theorem ty113 : tyS Try.prog 113 = some none := by kernel_rfl
theorem ze113 : zeroS Try.prog 113 = some [.nilFunc] := by kernel_rfl
theorem in113 : inS Try.prog 113 = some (1, 8) := by kernel_rfl
theorem ty114 : tyS Try.prog 114 = some none := by kernel_rfl
theorem ze114 : zeroS Try.prog 114 = some [.nilFunc] := by kernel_rfl
theorem in114 : inS Try.prog 114 = some (1, 8) := by kernel_rfl
theorem ty115 : tyS Try.prog 115 = some none := by kernel_rfl
theorem ze115 : zeroS Try.prog 115 = some [.nilFunc] := by kernel_rfl
theorem in115 : inS Try.prog 115 = some (1, 8) := by kernel_rfl
theorem ty116 : tyS Try.prog 116 = some none := by kernel_rfl
theorem ze116 : zeroS Try.prog 116 = some [.nilFunc] := by kernel_rfl
theorem in116 : inS Try.prog 116 = some (1, 8) := by kernel_rfl
theorem ty117 : tyS Try.prog 117 = some none := by kernel_rfl
theorem ze117 : zeroS Try.prog 117 = some [.nilFunc] := by kernel_rfl
theorem in117 : inS Try.prog 117 = some (1, 8) := by kernel_rfl
theorem ty118 : tyS Try.prog 118 = some none := by kernel_rfl
theorem ze118 : zeroS Try.prog 118 = some [.nilFunc] := by kernel_rfl
theorem in118 : inS Try.prog 118 = some (1, 8) := by kernel_rfl
theorem ty119 : tyS Try.prog 119 = some none := by kernel_rfl
theorem ze119 : zeroS Try.prog 119 = some [.nilFunc] := by kernel_rfl
theorem in119 : inS Try.prog 119 = some (1, 8) := by kernel_rfl
theorem ty120 : tyS Try.prog 120 = some none := by kernel_rfl
theorem ze120 : zeroS Try.prog 120 = some [.nilFunc] := by kernel_rfl
theorem in120 : inS Try.prog 120 = some (1, 8) := by kernel_rfl
theorem ty121 : tyS Try.prog 121 = some none := by kernel_rfl
theorem ze121 : zeroS Try.prog 121 = some [.nilFunc] := by kernel_rfl
theorem in121 : inS Try.prog 121 = some (1, 8) := by kernel_rfl
theorem ty122 : tyS Try.prog 122 = some none := by kernel_rfl
theorem ze122 : zeroS Try.prog 122 = some [.nilFunc] := by kernel_rfl
theorem in122 : inS Try.prog 122 = some (1, 8) := by kernel_rfl
theorem ty123 : tyS Try.prog 123 = some none := by kernel_rfl
theorem ze123 : zeroS Try.prog 123 = some [.nilFunc] := by kernel_rfl
theorem in123 : inS Try.prog 123 = some (1, 8) := by kernel_rfl
theorem ty124 : tyS Try.prog 124 = some none := by kernel_rfl
theorem ze124 : zeroS Try.prog 124 = some [.nilFunc] := by kernel_rfl
theorem in124 : inS Try.prog 124 = some (1, 8) := by kernel_rfl
theorem ty125 : tyS Try.prog 125 = some none := by kernel_rfl
theorem ze125 : zeroS Try.prog 125 = some [.nilFunc] := by kernel_rfl
theorem in125 : inS Try.prog 125 = some (1, 8) := by kernel_rfl
theorem ty126 : tyS Try.prog 126 = some none := by kernel_rfl
theorem ze126 : zeroS Try.prog 126 = some [.nilFunc] := by kernel_rfl
theorem in126 : inS Try.prog 126 = some (1, 8) := by kernel_rfl
theorem ty127 : tyS Try.prog 127 = some none := by kernel_rfl
theorem ze127 : zeroS Try.prog 127 = some [.nilFunc] := by kernel_rfl
theorem in127 : inS Try.prog 127 = some (1, 8) := by kernel_rfl
theorem ty128 : tyS Try.prog 128 = some none := by kernel_rfl
theorem ze128 : zeroS Try.prog 128 = some [.slice none 0 0] := by kernel_rfl
theorem in128 : inS Try.prog 128 = some (1, 24) := by kernel_rfl
theorem el128 : elS Try.prog 128 = some (26, 3) := by kernel_rfl
theorem ty129 : tyS Try.prog 129 = some none := by kernel_rfl
theorem ze129 : zeroS Try.prog 129 = some [.nilFunc] := by kernel_rfl
theorem in129 : inS Try.prog 129 = some (1, 8) := by kernel_rfl
theorem ty130 : tyS Try.prog 130 = some none := by kernel_rfl
theorem ze130 : zeroS Try.prog 130 = some [.nilFunc] := by kernel_rfl
theorem in130 : inS Try.prog 130 = some (1, 8) := by kernel_rfl
theorem ty131 : tyS Try.prog 131 = some none := by kernel_rfl
theorem in131 : inS Try.prog 131 = some (1, 0) := by kernel_rfl
theorem ty132 : tyS Try.prog 132 = some none := by kernel_rfl
theorem ze132 : zeroS Try.prog 132 = some [.nilFunc] := by kernel_rfl
theorem in132 : inS Try.prog 132 = some (1, 8) := by kernel_rfl
theorem ty133 : tyS Try.prog 133 = some none := by kernel_rfl
theorem ze133 : zeroS Try.prog 133 = some [.nilFunc] := by kernel_rfl
theorem in133 : inS Try.prog 133 = some (1, 8) := by kernel_rfl
theorem ty134 : tyS Try.prog 134 = some none := by kernel_rfl
theorem ze134 : zeroS Try.prog 134 = some [.nilFunc] := by kernel_rfl
theorem in134 : inS Try.prog 134 = some (1, 8) := by kernel_rfl
theorem ty135 : tyS Try.prog 135 = some none := by kernel_rfl
theorem ze135 : zeroS Try.prog 135 = some [.nilFunc] := by kernel_rfl
theorem in135 : inS Try.prog 135 = some (1, 8) := by kernel_rfl
theorem ty136 : tyS Try.prog 136 = some none := by kernel_rfl
theorem ze136 : zeroS Try.prog 136 = some [.nilFunc] := by kernel_rfl
theorem in136 : inS Try.prog 136 = some (1, 8) := by kernel_rfl
theorem ty137 : tyS Try.prog 137 = some none := by kernel_rfl
theorem ze137 : zeroS Try.prog 137 = some [.nilFunc] := by kernel_rfl
theorem in137 : inS Try.prog 137 = some (1, 8) := by kernel_rfl
theorem ty138 : tyS Try.prog 138 = some none := by kernel_rfl
theorem ze138 : zeroS Try.prog 138 = some [.slice none 0 0] := by kernel_rfl
theorem in138 : inS Try.prog 138 = some (1, 24) := by kernel_rfl
theorem el138 : elS Try.prog 138 = some (22, 1) := by kernel_rfl
theorem ty139 : tyS Try.prog 139 = some none := by kernel_rfl
theorem in139 : inS Try.prog 139 = some (1, 0) := by kernel_rfl
theorem ty140 : tyS Try.prog 140 = some none := by kernel_rfl
theorem ze140 : zeroS Try.prog 140 = some [.nilFunc] := by kernel_rfl
theorem in140 : inS Try.prog 140 = some (1, 8) := by kernel_rfl
theorem ty141 : tyS Try.prog 141 = some none := by kernel_rfl
theorem ze141 : zeroS Try.prog 141 = some [.int .u64 0] := by kernel_rfl
theorem in141 : inS Try.prog 141 = some (1, 8) := by kernel_rfl
theorem ty142 : tyS Try.prog 142 = some none := by kernel_rfl
theorem in142 : inS Try.prog 142 = some (1, 0) := by kernel_rfl
theorem ty143 : tyS Try.prog 143 = some none := by kernel_rfl
theorem ze143 : zeroS Try.prog 143 = some [.nilFunc] := by kernel_rfl
theorem in143 : inS Try.prog 143 = some (1, 8) := by kernel_rfl
theorem ty144 : tyS Try.prog 144 = some none := by kernel_rfl
theorem ze144 : zeroS Try.prog 144 = some [.nilFunc] := by kernel_rfl
theorem in144 : inS Try.prog 144 = some (1, 8) := by kernel_rfl
theorem ty145 : tyS Try.prog 145 = some none := by kernel_rfl
theorem ze145 : zeroS Try.prog 145 = some [.nilFunc] := by kernel_rfl
theorem in145 : inS Try.prog 145 = some (1, 8) := by kernel_rfl
theorem ty146 : tyS Try.prog 146 = some none := by kernel_rfl
theorem ze146 : zeroS Try.prog 146 = some [.nilFunc] := by kernel_rfl
theorem in146 : inS Try.prog 146 = some (1, 8) := by kernel_rfl
theorem ty147 : tyS Try.prog 147 = some none := by kernel_rfl
theorem ze147 : zeroS Try.prog 147 = some [.slice none 0 0] := by kernel_rfl
theorem in147 : inS Try.prog 147 = some (1, 24) := by kernel_rfl
theorem el147 : elS Try.prog 147 = some (4, 1) := by kernel_rfl
theorem ty148 : tyS Try.prog 148 = some none := by kernel_rfl
theorem ze148 : zeroS Try.prog 148 = some [.int .u32 0] := by kernel_rfl
theorem in148 : inS Try.prog 148 = some (1, 4) := by kernel_rfl
theorem ty149 : tyS Try.prog 149 = some none := by kernel_rfl
theorem in149 : inS Try.prog 149 = some (1, 0) := by kernel_rfl
theorem ty150 : tyS Try.prog 150 = some none := by kernel_rfl
theorem ze150 : zeroS Try.prog 150 = some [.nilFunc] := by kernel_rfl
theorem in150 : inS Try.prog 150 = some (1, 8) := by kernel_rfl
theorem ty151 : tyS Try.prog 151 = some none := by kernel_rfl
theorem in151 : inS Try.prog 151 = some (1, 0) := by kernel_rfl
theorem ty152 : tyS Try.prog 152 = some none := by kernel_rfl
theorem ze152 : zeroS Try.prog 152 = some [.nilFunc] := by kernel_rfl
theorem in152 : inS Try.prog 152 = some (1, 8) := by kernel_rfl
theorem ty153 : tyS Try.prog 153 = some none := by kernel_rfl
theorem ze153 : zeroS Try.prog 153 = some [.nilFunc] := by kernel_rfl
theorem in153 : inS Try.prog 153 = some (1, 8) := by kernel_rfl
theorem ty154 : tyS Try.prog 154 = some (some 4) := by kernel_rfl
theorem ze154 : zeroS Try.prog 154 = some [.pointer none, .pointer none, .pointer none, .string ⟨#[]⟩] := by kernel_rfl
theorem in154 : inS Try.prog 154 = some (4, 40) := by kernel_rfl
theorem pl154 : plS Try.prog 154 = some [(0, 1), (1, 1), (2, 1), (3, 1)] := by kernel_rfl
theorem st154 : isStruct Try.prog 154 = true := by kernel_rfl
theorem fl154_0 : fldS Try.prog 154 0 = some 0 := by kernel_rfl
theorem pt154_0 : partS Try.prog 154 0 = some (0, none) := by kernel_rfl
theorem fl154_1 : fldS Try.prog 154 1 = some 1 := by kernel_rfl
theorem pt154_1 : partS Try.prog 154 1 = some (1, none) := by kernel_rfl
theorem fl154_2 : fldS Try.prog 154 2 = some 2 := by kernel_rfl
theorem pt154_2 : partS Try.prog 154 2 = some (2, none) := by kernel_rfl
theorem fl154_3 : fldS Try.prog 154 3 = some 3 := by kernel_rfl
theorem pt154_3 : partS Try.prog 154 3 = some (3, none) := by kernel_rfl
theorem ty155 : tyS Try.prog 155 = some (some 4) := by kernel_rfl
theorem ze155 : zeroS Try.prog 155 = some [.pointer none, .pointer none, .pointer none, .string ⟨#[]⟩] := by kernel_rfl
theorem in155 : inS Try.prog 155 = some (4, 40) := by kernel_rfl
theorem pl155 : plS Try.prog 155 = some [(0, 1), (1, 1), (2, 1), (3, 1)] := by kernel_rfl
theorem st155 : isStruct Try.prog 155 = true := by kernel_rfl
theorem fl155_0 : fldS Try.prog 155 0 = some 0 := by kernel_rfl
theorem pt155_0 : partS Try.prog 155 0 = some (0, none) := by kernel_rfl
theorem fl155_1 : fldS Try.prog 155 1 = some 1 := by kernel_rfl
theorem pt155_1 : partS Try.prog 155 1 = some (1, none) := by kernel_rfl
theorem fl155_2 : fldS Try.prog 155 2 = some 2 := by kernel_rfl
theorem pt155_2 : partS Try.prog 155 2 = some (2, none) := by kernel_rfl
theorem fl155_3 : fldS Try.prog 155 3 = some 3 := by kernel_rfl
theorem pt155_3 : partS Try.prog 155 3 = some (3, none) := by kernel_rfl
theorem ty156 : tyS Try.prog 156 = some (some 0) := by kernel_rfl
theorem ze156 : zeroS Try.prog 156 = some [] := by kernel_rfl
theorem in156 : inS Try.prog 156 = some (0, 0) := by kernel_rfl
theorem ty157 : tyS Try.prog 157 = some (some 0) := by kernel_rfl
theorem ze157 : zeroS Try.prog 157 = some [] := by kernel_rfl
theorem in157 : inS Try.prog 157 = some (0, 0) := by kernel_rfl
theorem ty158 : tyS Try.prog 158 = some (some 0) := by kernel_rfl
theorem ze158 : zeroS Try.prog 158 = some [] := by kernel_rfl
theorem in158 : inS Try.prog 158 = some (0, 0) := by kernel_rfl
theorem ty159 : tyS Try.prog 159 = some none := by kernel_rfl
theorem ze159 : zeroS Try.prog 159 = some [.int .u8 0] := by kernel_rfl
theorem in159 : inS Try.prog 159 = some (1, 1) := by kernel_rfl
theorem ty160 : tyS Try.prog 160 = some none := by kernel_rfl
theorem ze160 : zeroS Try.prog 160 = some [.int .u8 0] := by kernel_rfl
theorem in160 : inS Try.prog 160 = some (1, 1) := by kernel_rfl
theorem ty161 : tyS Try.prog 161 = some none := by kernel_rfl
theorem ze161 : zeroS Try.prog 161 = some [.nilFunc] := by kernel_rfl
theorem in161 : inS Try.prog 161 = some (1, 8) := by kernel_rfl
theorem ty162 : tyS Try.prog 162 = some none := by kernel_rfl
theorem ze162 : zeroS Try.prog 162 = some [.pointer none] := by kernel_rfl
theorem in162 : inS Try.prog 162 = some (1, 8) := by kernel_rfl
theorem ty163 : tyS Try.prog 163 = some none := by kernel_rfl
theorem ze163 : zeroS Try.prog 163 = some [.int .i32 0] := by kernel_rfl
theorem in163 : inS Try.prog 163 = some (1, 4) := by kernel_rfl
theorem ty164 : tyS Try.prog 164 = some none := by kernel_rfl
theorem ze164 : zeroS Try.prog 164 = some [.int .i32 0] := by kernel_rfl
theorem in164 : inS Try.prog 164 = some (1, 4) := by kernel_rfl
theorem ty165 : tyS Try.prog 165 = some (some 11) := by kernel_rfl
theorem ze165 : zeroS Try.prog 165 = some [.int .u64 0, .int .u64 0, .int .u32 0, .int .u8 0, .int .u8 0, .int .u8 0, .int .u8 0, .nilFunc, .pointer none, .int .i32 0, .int .i32 0] := by kernel_rfl
theorem in165 : inS Try.prog 165 = some (11, 48) := by kernel_rfl
theorem pl165 : plS Try.prog 165 = some [(0, 1), (1, 1), (2, 1), (3, 1), (4, 1), (5, 1), (6, 1), (7, 1), (8, 1), (9, 1), (10, 1)] := by kernel_rfl
theorem st165 : isStruct Try.prog 165 = true := by kernel_rfl
theorem fl165_0 : fldS Try.prog 165 0 = some 0 := by kernel_rfl
theorem pt165_0 : partS Try.prog 165 0 = some (0, none) := by kernel_rfl
theorem fl165_1 : fldS Try.prog 165 1 = some 1 := by kernel_rfl
theorem pt165_1 : partS Try.prog 165 1 = some (1, none) := by kernel_rfl
theorem fl165_2 : fldS Try.prog 165 2 = some 2 := by kernel_rfl
theorem pt165_2 : partS Try.prog 165 2 = some (2, none) := by kernel_rfl
theorem fl165_3 : fldS Try.prog 165 3 = some 3 := by kernel_rfl
theorem pt165_3 : partS Try.prog 165 3 = some (3, none) := by kernel_rfl
theorem fl165_4 : fldS Try.prog 165 4 = some 4 := by kernel_rfl
theorem pt165_4 : partS Try.prog 165 4 = some (4, none) := by kernel_rfl
theorem fl165_5 : fldS Try.prog 165 5 = some 5 := by kernel_rfl
theorem pt165_5 : partS Try.prog 165 5 = some (5, none) := by kernel_rfl
theorem fl165_6 : fldS Try.prog 165 6 = some 6 := by kernel_rfl
theorem pt165_6 : partS Try.prog 165 6 = some (6, none) := by kernel_rfl
theorem fl165_7 : fldS Try.prog 165 7 = some 7 := by kernel_rfl
theorem pt165_7 : partS Try.prog 165 7 = some (7, none) := by kernel_rfl
theorem fl165_8 : fldS Try.prog 165 8 = some 8 := by kernel_rfl
theorem pt165_8 : partS Try.prog 165 8 = some (8, none) := by kernel_rfl
theorem fl165_9 : fldS Try.prog 165 9 = some 9 := by kernel_rfl
theorem pt165_9 : partS Try.prog 165 9 = some (9, none) := by kernel_rfl
theorem fl165_10 : fldS Try.prog 165 10 = some 10 := by kernel_rfl
theorem pt165_10 : partS Try.prog 165 10 = some (10, none) := by kernel_rfl
theorem ty166 : tyS Try.prog 166 = some (some 11) := by kernel_rfl
theorem ze166 : zeroS Try.prog 166 = some [.int .u64 0, .int .u64 0, .int .u32 0, .int .u8 0, .int .u8 0, .int .u8 0, .int .u8 0, .nilFunc, .pointer none, .int .i32 0, .int .i32 0] := by kernel_rfl
theorem in166 : inS Try.prog 166 = some (11, 48) := by kernel_rfl
theorem pl166 : plS Try.prog 166 = some [(0, 1), (1, 1), (2, 1), (3, 1), (4, 1), (5, 1), (6, 1), (7, 1), (8, 1), (9, 1), (10, 1)] := by kernel_rfl
theorem st166 : isStruct Try.prog 166 = true := by kernel_rfl
theorem fl166_0 : fldS Try.prog 166 0 = some 0 := by kernel_rfl
theorem pt166_0 : partS Try.prog 166 0 = some (0, none) := by kernel_rfl
theorem fl166_1 : fldS Try.prog 166 1 = some 1 := by kernel_rfl
theorem pt166_1 : partS Try.prog 166 1 = some (1, none) := by kernel_rfl
theorem fl166_2 : fldS Try.prog 166 2 = some 2 := by kernel_rfl
theorem pt166_2 : partS Try.prog 166 2 = some (2, none) := by kernel_rfl
theorem fl166_3 : fldS Try.prog 166 3 = some 3 := by kernel_rfl
theorem pt166_3 : partS Try.prog 166 3 = some (3, none) := by kernel_rfl
theorem fl166_4 : fldS Try.prog 166 4 = some 4 := by kernel_rfl
theorem pt166_4 : partS Try.prog 166 4 = some (4, none) := by kernel_rfl
theorem fl166_5 : fldS Try.prog 166 5 = some 5 := by kernel_rfl
theorem pt166_5 : partS Try.prog 166 5 = some (5, none) := by kernel_rfl
theorem fl166_6 : fldS Try.prog 166 6 = some 6 := by kernel_rfl
theorem pt166_6 : partS Try.prog 166 6 = some (6, none) := by kernel_rfl
theorem fl166_7 : fldS Try.prog 166 7 = some 7 := by kernel_rfl
theorem pt166_7 : partS Try.prog 166 7 = some (7, none) := by kernel_rfl
theorem fl166_8 : fldS Try.prog 166 8 = some 8 := by kernel_rfl
theorem pt166_8 : partS Try.prog 166 8 = some (8, none) := by kernel_rfl
theorem fl166_9 : fldS Try.prog 166 9 = some 9 := by kernel_rfl
theorem pt166_9 : partS Try.prog 166 9 = some (9, none) := by kernel_rfl
theorem fl166_10 : fldS Try.prog 166 10 = some 10 := by kernel_rfl
theorem pt166_10 : partS Try.prog 166 10 = some (10, none) := by kernel_rfl
theorem ty167 : tyS Try.prog 167 = some none := by kernel_rfl
theorem ze167 : zeroS Try.prog 167 = some [.pointer none] := by kernel_rfl
theorem in167 : inS Try.prog 167 = some (1, 8) := by kernel_rfl
theorem en3 : Enters Try.prog 3 := enters_of Try.func3 (by kernel_rfl) rfl
theorem en4 : Enters Try.prog 4 := enters_of Try.func4 (by kernel_rfl) rfl
theorem en5 : Enters Try.prog 5 := enters_of Try.func5 (by kernel_rfl) rfl
theorem en6 : Enters Try.prog 6 := enters_of Try.func6 (by kernel_rfl) rfl
theorem en7 : Enters Try.prog 7 := enters_of Try.func7 (by kernel_rfl) rfl
theorem en8 : Enters Try.prog 8 := enters_of Try.func8 (by kernel_rfl) rfl
theorem en9 : Enters Try.prog 9 := enters_of Try.func9 (by kernel_rfl) rfl
theorem en10 : Enters Try.prog 10 := enters_of Try.func10 (by kernel_rfl) rfl
theorem en11 : Enters Try.prog 11 := enters_of Try.func11 (by kernel_rfl) rfl
theorem en12 : Enters Try.prog 12 := enters_of Try.func12 (by kernel_rfl) rfl
theorem en13 : Enters Try.prog 13 := enters_of Try.func13 (by kernel_rfl) rfl
theorem en14 : Enters Try.prog 14 := enters_of Try.func14 (by kernel_rfl) rfl
theorem en15 : Enters Try.prog 15 := enters_of Try.func15 (by kernel_rfl) rfl
theorem en16 : Enters Try.prog 16 := enters_of Try.func16 (by kernel_rfl) rfl
theorem en17 : Enters Try.prog 17 := enters_of Try.func17 (by kernel_rfl) rfl
theorem en18 : Enters Try.prog 18 := enters_of Try.func18 (by kernel_rfl) rfl
theorem en19 : Enters Try.prog 19 := enters_of Try.func19 (by kernel_rfl) rfl
theorem en20 : Enters Try.prog 20 := enters_of Try.func20 (by kernel_rfl) rfl
theorem en21 : Enters Try.prog 21 := enters_of Try.func21 (by kernel_rfl) rfl
theorem en22 : Enters Try.prog 22 := enters_of Try.func22 (by kernel_rfl) rfl
theorem en23 : Enters Try.prog 23 := enters_of Try.func23 (by kernel_rfl) rfl
theorem en24 : Enters Try.prog 24 := enters_of Try.func24 (by kernel_rfl) rfl
theorem en25 : Enters Try.prog 25 := enters_of Try.func25 (by kernel_rfl) rfl
theorem en26 : Enters Try.prog 26 := enters_of Try.func26 (by kernel_rfl) rfl
theorem en27 : Enters Try.prog 27 := enters_of Try.func27 (by kernel_rfl) rfl
theorem en28 : Enters Try.prog 28 := enters_of Try.func28 (by kernel_rfl) rfl
theorem en29 : Enters Try.prog 29 := enters_of Try.func29 (by kernel_rfl) rfl
theorem en30 : Enters Try.prog 30 := enters_of Try.func30 (by kernel_rfl) rfl
theorem en31 : Enters Try.prog 31 := enters_of Try.func31 (by kernel_rfl) rfl
theorem en32 : Enters Try.prog 32 := enters_of Try.func32 (by kernel_rfl) rfl
theorem en33 : Enters Try.prog 33 := enters_of Try.func33 (by kernel_rfl) rfl
theorem en34 : Enters Try.prog 34 := enters_of Try.func34 (by kernel_rfl) rfl
theorem en35 : Enters Try.prog 35 := enters_of Try.func35 (by kernel_rfl) rfl
theorem en36 : Enters Try.prog 36 := enters_of Try.func36 (by kernel_rfl) rfl
theorem en37 : Enters Try.prog 37 := enters_of Try.func37 (by kernel_rfl) rfl
theorem en38 : Enters Try.prog 38 := enters_of Try.func38 (by kernel_rfl) rfl
theorem en39 : Enters Try.prog 39 := enters_of Try.func39 (by kernel_rfl) rfl
theorem en40 : Enters Try.prog 40 := enters_of Try.func40 (by kernel_rfl) rfl
theorem en41 : Enters Try.prog 41 := enters_of Try.func41 (by kernel_rfl) rfl
theorem en42 : Enters Try.prog 42 := enters_of Try.func42 (by kernel_rfl) rfl
theorem en43 : Enters Try.prog 43 := enters_of Try.func43 (by kernel_rfl) rfl
theorem en44 : Enters Try.prog 44 := enters_of Try.func44 (by kernel_rfl) rfl
theorem en45 : Enters Try.prog 45 := enters_of Try.func45 (by kernel_rfl) rfl
theorem en46 : Enters Try.prog 46 := enters_of Try.func46 (by kernel_rfl) rfl
theorem en47 : Enters Try.prog 47 := enters_of Try.func47 (by kernel_rfl) rfl
theorem en48 : Enters Try.prog 48 := enters_of Try.func48 (by kernel_rfl) rfl
theorem en49 : Enters Try.prog 49 := enters_of Try.func49 (by kernel_rfl) rfl
theorem en50 : Enters Try.prog 50 := enters_of Try.func50 (by kernel_rfl) rfl
theorem en51 : Enters Try.prog 51 := enters_of Try.func51 (by kernel_rfl) rfl
theorem en52 : Enters Try.prog 52 := enters_of Try.func52 (by kernel_rfl) rfl
theorem en53 : Enters Try.prog 53 := enters_of Try.func53 (by kernel_rfl) rfl
theorem en54 : Enters Try.prog 54 := enters_of Try.func54 (by kernel_rfl) rfl
theorem en55 : Enters Try.prog 55 := enters_of Try.func55 (by kernel_rfl) rfl
theorem en56 : Enters Try.prog 56 := enters_of Try.func56 (by kernel_rfl) rfl
theorem en57 : Enters Try.prog 57 := enters_of Try.func57 (by kernel_rfl) rfl
theorem en58 : Enters Try.prog 58 := enters_of Try.func58 (by kernel_rfl) rfl
theorem en59 : Enters Try.prog 59 := enters_of Try.func59 (by kernel_rfl) rfl
theorem en60 : Enters Try.prog 60 := enters_of Try.func60 (by kernel_rfl) rfl
theorem en61 : Enters Try.prog 61 := enters_of Try.func61 (by kernel_rfl) rfl
theorem en62 : Enters Try.prog 62 := enters_of Try.func62 (by kernel_rfl) rfl
theorem en63 : Enters Try.prog 63 := enters_of Try.func63 (by kernel_rfl) rfl
theorem en64 : Enters Try.prog 64 := enters_of Try.func64 (by kernel_rfl) rfl
theorem en65 : Enters Try.prog 65 := enters_of Try.func65 (by kernel_rfl) rfl
theorem en66 : Enters Try.prog 66 := enters_of Try.func66 (by kernel_rfl) rfl
theorem en67 : Enters Try.prog 67 := enters_of Try.func67 (by kernel_rfl) rfl
theorem en68 : Enters Try.prog 68 := enters_of Try.func68 (by kernel_rfl) rfl
theorem en69 : Enters Try.prog 69 := enters_of Try.func69 (by kernel_rfl) rfl
theorem en70 : Enters Try.prog 70 := enters_of Try.func70 (by kernel_rfl) rfl
theorem en71 : Enters Try.prog 71 := enters_of Try.func71 (by kernel_rfl) rfl
theorem en72 : Enters Try.prog 72 := enters_of Try.func72 (by kernel_rfl) rfl
theorem en73 : Enters Try.prog 73 := enters_of Try.func73 (by kernel_rfl) rfl
theorem en74 : Enters Try.prog 74 := enters_of Try.func74 (by kernel_rfl) rfl
theorem en75 : Enters Try.prog 75 := enters_of Try.func75 (by kernel_rfl) rfl
theorem en76 : Enters Try.prog 76 := enters_of Try.func76 (by kernel_rfl) rfl
theorem en77 : Enters Try.prog 77 := enters_of Try.func77 (by kernel_rfl) rfl
theorem en78 : Enters Try.prog 78 := enters_of Try.func78 (by kernel_rfl) rfl
theorem en79 : Enters Try.prog 79 := enters_of Try.func79 (by kernel_rfl) rfl
theorem en80 : Enters Try.prog 80 := enters_of Try.func80 (by kernel_rfl) rfl
theorem en81 : Enters Try.prog 81 := enters_of Try.func81 (by kernel_rfl) rfl
theorem en82 : Enters Try.prog 82 := enters_of Try.func82 (by kernel_rfl) rfl
theorem en83 : Enters Try.prog 83 := enters_of Try.func83 (by kernel_rfl) rfl
theorem en84 : Enters Try.prog 84 := enters_of Try.func84 (by kernel_rfl) rfl
theorem en85 : Enters Try.prog 85 := enters_of Try.func85 (by kernel_rfl) rfl
theorem en86 : Enters Try.prog 86 := enters_of Try.func86 (by kernel_rfl) rfl
theorem en87 : Enters Try.prog 87 := enters_of Try.func87 (by kernel_rfl) rfl
theorem en88 : Enters Try.prog 88 := enters_of Try.func88 (by kernel_rfl) rfl
theorem en89 : Enters Try.prog 89 := enters_of Try.func89 (by kernel_rfl) rfl
theorem en90 : Enters Try.prog 90 := enters_of Try.func90 (by kernel_rfl) rfl
theorem en91 : Enters Try.prog 91 := enters_of Try.func91 (by kernel_rfl) rfl
theorem en92 : Enters Try.prog 92 := enters_of Try.func92 (by kernel_rfl) rfl
theorem en93 : Enters Try.prog 93 := enters_of Try.func93 (by kernel_rfl) rfl
theorem en94 : Enters Try.prog 94 := enters_of Try.func94 (by kernel_rfl) rfl
theorem en95 : Enters Try.prog 95 := enters_of Try.func95 (by kernel_rfl) rfl
theorem en96 : Enters Try.prog 96 := enters_of Try.func96 (by kernel_rfl) rfl
theorem en97 : Enters Try.prog 97 := enters_of Try.func97 (by kernel_rfl) rfl
theorem en98 : Enters Try.prog 98 := enters_of Try.func98 (by kernel_rfl) rfl
theorem en99 : Enters Try.prog 99 := enters_of Try.func99 (by kernel_rfl) rfl
theorem en100 : Enters Try.prog 100 := enters_of Try.func100 (by kernel_rfl) rfl
theorem en101 : Enters Try.prog 101 := enters_of Try.func101 (by kernel_rfl) rfl
theorem en102 : Enters Try.prog 102 := enters_of Try.func102 (by kernel_rfl) rfl
theorem en103 : Enters Try.prog 103 := enters_of Try.func103 (by kernel_rfl) rfl
theorem en104 : Enters Try.prog 104 := enters_of Try.func104 (by kernel_rfl) rfl
theorem en105 : Enters Try.prog 105 := enters_of Try.func105 (by kernel_rfl) rfl
theorem en106 : Enters Try.prog 106 := enters_of Try.func106 (by kernel_rfl) rfl
theorem en107 : Enters Try.prog 107 := enters_of Try.func107 (by kernel_rfl) rfl
theorem en108 : Enters Try.prog 108 := enters_of Try.func108 (by kernel_rfl) rfl
theorem en109 : Enters Try.prog 109 := enters_of Try.func109 (by kernel_rfl) rfl
theorem en110 : Enters Try.prog 110 := enters_of Try.func110 (by kernel_rfl) rfl
theorem en111 : Enters Try.prog 111 := enters_of Try.func111 (by kernel_rfl) rfl
theorem en112 : Enters Try.prog 112 := enters_of Try.func112 (by kernel_rfl) rfl
theorem en113 : Enters Try.prog 113 := enters_of Try.func113 (by kernel_rfl) rfl
theorem en114 : Enters Try.prog 114 := enters_of Try.func114 (by kernel_rfl) rfl
theorem en115 : Enters Try.prog 115 := enters_of Try.func115 (by kernel_rfl) rfl
theorem en116 : Enters Try.prog 116 := enters_of Try.func116 (by kernel_rfl) rfl
theorem en117 : Enters Try.prog 117 := enters_of Try.func117 (by kernel_rfl) rfl
theorem en118 : Enters Try.prog 118 := enters_of Try.func118 (by kernel_rfl) rfl
theorem en119 : Enters Try.prog 119 := enters_of Try.func119 (by kernel_rfl) rfl
theorem en120 : Enters Try.prog 120 := enters_of Try.func120 (by kernel_rfl) rfl
theorem en121 : Enters Try.prog 121 := enters_of Try.func121 (by kernel_rfl) rfl
theorem en122 : Enters Try.prog 122 := enters_of Try.func122 (by kernel_rfl) rfl
theorem en123 : Enters Try.prog 123 := enters_of Try.func123 (by kernel_rfl) rfl
theorem en124 : Enters Try.prog 124 := enters_of Try.func124 (by kernel_rfl) rfl
theorem en125 : Enters Try.prog 125 := enters_of Try.func125 (by kernel_rfl) rfl
theorem en126 : Enters Try.prog 126 := enters_of Try.func126 (by kernel_rfl) rfl
theorem en127 : Enters Try.prog 127 := enters_of Try.func127 (by kernel_rfl) rfl
theorem en128 : Enters Try.prog 128 := enters_of Try.func128 (by kernel_rfl) rfl
theorem en129 : Enters Try.prog 129 := enters_of Try.func129 (by kernel_rfl) rfl
theorem en130 : Enters Try.prog 130 := enters_of Try.func130 (by kernel_rfl) rfl
theorem en131 : Enters Try.prog 131 := enters_of Try.func131 (by kernel_rfl) rfl
theorem en132 : Enters Try.prog 132 := enters_of Try.func132 (by kernel_rfl) rfl
theorem en133 : Enters Try.prog 133 := enters_of Try.func133 (by kernel_rfl) rfl
theorem en134 : Enters Try.prog 134 := enters_of Try.func134 (by kernel_rfl) rfl
theorem en135 : Enters Try.prog 135 := enters_of Try.func135 (by kernel_rfl) rfl
theorem en136 : Enters Try.prog 136 := enters_of Try.func136 (by kernel_rfl) rfl
theorem en137 : Enters Try.prog 137 := enters_of Try.func137 (by kernel_rfl) rfl
theorem en138 : Enters Try.prog 138 := enters_of Try.func138 (by kernel_rfl) rfl
theorem en139 : Enters Try.prog 139 := enters_of Try.func139 (by kernel_rfl) rfl
theorem en140 : Enters Try.prog 140 := enters_of Try.func140 (by kernel_rfl) rfl
theorem en141 : Enters Try.prog 141 := enters_of Try.func141 (by kernel_rfl) rfl
theorem en142 : Enters Try.prog 142 := enters_of Try.func142 (by kernel_rfl) rfl
theorem en143 : Enters Try.prog 143 := enters_of Try.func143 (by kernel_rfl) rfl
theorem en144 : Enters Try.prog 144 := enters_of Try.func144 (by kernel_rfl) rfl
theorem en145 : Enters Try.prog 145 := enters_of Try.func145 (by kernel_rfl) rfl
theorem en146 : Enters Try.prog 146 := enters_of Try.func146 (by kernel_rfl) rfl
theorem en147 : Enters Try.prog 147 := enters_of Try.func147 (by kernel_rfl) rfl
theorem en148 : Enters Try.prog 148 := enters_of Try.func148 (by kernel_rfl) rfl
theorem en149 : Enters Try.prog 149 := enters_of Try.func149 (by kernel_rfl) rfl
theorem en150 : Enters Try.prog 150 := enters_of Try.func150 (by kernel_rfl) rfl
theorem en151 : Enters Try.prog 151 := enters_of Try.func151 (by kernel_rfl) rfl
theorem en152 : Enters Try.prog 152 := enters_of Try.func152 (by kernel_rfl) rfl
theorem en153 : Enters Try.prog 153 := enters_of Try.func153 (by kernel_rfl) rfl
theorem en154 : Enters Try.prog 154 := enters_of Try.func154 (by kernel_rfl) rfl
theorem en155 : Enters Try.prog 155 := enters_of Try.func155 (by kernel_rfl) rfl
theorem en156 : Enters Try.prog 156 := enters_of Try.func156 (by kernel_rfl) rfl
theorem en157 : Enters Try.prog 157 := enters_of Try.func157 (by kernel_rfl) rfl
theorem en158 : Enters Try.prog 158 := enters_of Try.func158 (by kernel_rfl) rfl
theorem en159 : Enters Try.prog 159 := enters_of Try.func159 (by kernel_rfl) rfl
theorem en160 : Enters Try.prog 160 := enters_of Try.func160 (by kernel_rfl) rfl
theorem en161 : Enters Try.prog 161 := enters_of Try.func161 (by kernel_rfl) rfl
theorem en162 : Enters Try.prog 162 := enters_of Try.func162 (by kernel_rfl) rfl
theorem en163 : Enters Try.prog 163 := enters_of Try.func163 (by kernel_rfl) rfl
theorem en164 : Enters Try.prog 164 := enters_of Try.func164 (by kernel_rfl) rfl
theorem en165 : Enters Try.prog 165 := enters_of Try.func165 (by kernel_rfl) rfl
theorem en166 : Enters Try.prog 166 := enters_of Try.func166 (by kernel_rfl) rfl
theorem en167 : Enters Try.prog 167 := enters_of Try.func167 (by kernel_rfl) rfl
theorem en168 : Enters Try.prog 168 := enters_of Try.func168 (by kernel_rfl) rfl
theorem en169 : Enters Try.prog 169 := enters_of Try.func169 (by kernel_rfl) rfl
theorem en170 : Enters Try.prog 170 := enters_of Try.func170 (by kernel_rfl) rfl
theorem en171 : Enters Try.prog 171 := enters_of Try.func171 (by kernel_rfl) rfl
theorem en172 : Enters Try.prog 172 := enters_of Try.func172 (by kernel_rfl) rfl
theorem en173 : Enters Try.prog 173 := enters_of Try.func173 (by kernel_rfl) rfl
theorem en174 : Enters Try.prog 174 := enters_of Try.func174 (by kernel_rfl) rfl
theorem en175 : Enters Try.prog 175 := enters_of Try.func175 (by kernel_rfl) rfl
theorem en176 : Enters Try.prog 176 := enters_of Try.func176 (by kernel_rfl) rfl
theorem en177 : Enters Try.prog 177 := enters_of Try.func177 (by kernel_rfl) rfl
theorem en178 : Enters Try.prog 178 := enters_of Try.func178 (by kernel_rfl) rfl
theorem en179 : Enters Try.prog 179 := enters_of Try.func179 (by kernel_rfl) rfl
theorem en180 : Enters Try.prog 180 := enters_of Try.func180 (by kernel_rfl) rfl
theorem en181 : Enters Try.prog 181 := enters_of Try.func181 (by kernel_rfl) rfl
theorem en182 : Enters Try.prog 182 := enters_of Try.func182 (by kernel_rfl) rfl
theorem en183 : Enters Try.prog 183 := enters_of Try.func183 (by kernel_rfl) rfl
theorem en184 : Enters Try.prog 184 := enters_of Try.func184 (by kernel_rfl) rfl
theorem en185 : Enters Try.prog 185 := enters_of Try.func185 (by kernel_rfl) rfl
theorem en186 : Enters Try.prog 186 := enters_of Try.func186 (by kernel_rfl) rfl
theorem en187 : Enters Try.prog 187 := enters_of Try.func187 (by kernel_rfl) rfl
theorem en188 : Enters Try.prog 188 := enters_of Try.func188 (by kernel_rfl) rfl
theorem en189 : Enters Try.prog 189 := enters_of Try.func189 (by kernel_rfl) rfl
theorem en190 : Enters Try.prog 190 := enters_of Try.func190 (by kernel_rfl) rfl
theorem en191 : Enters Try.prog 191 := enters_of Try.func191 (by kernel_rfl) rfl
theorem en192 : Enters Try.prog 192 := enters_of Try.func192 (by kernel_rfl) rfl
theorem en193 : Enters Try.prog 193 := enters_of Try.func193 (by kernel_rfl) rfl
theorem en194 : Enters Try.prog 194 := enters_of Try.func194 (by kernel_rfl) rfl
theorem en195 : Enters Try.prog 195 := enters_of Try.func195 (by kernel_rfl) rfl
theorem en196 : Enters Try.prog 196 := enters_of Try.func196 (by kernel_rfl) rfl
theorem en197 : Enters Try.prog 197 := enters_of Try.func197 (by kernel_rfl) rfl
theorem en198 : Enters Try.prog 198 := enters_of Try.func198 (by kernel_rfl) rfl
theorem en199 : Enters Try.prog 199 := enters_of Try.func199 (by kernel_rfl) rfl
theorem en200 : Enters Try.prog 200 := enters_of Try.func200 (by kernel_rfl) rfl
theorem en201 : Enters Try.prog 201 := enters_of Try.func201 (by kernel_rfl) rfl
theorem en202 : Enters Try.prog 202 := enters_of Try.func202 (by kernel_rfl) rfl
theorem en203 : Enters Try.prog 203 := enters_of Try.func203 (by kernel_rfl) rfl
theorem en204 : Enters Try.prog 204 := enters_of Try.func204 (by kernel_rfl) rfl
theorem en205 : Enters Try.prog 205 := enters_of Try.func205 (by kernel_rfl) rfl
theorem en206 : Enters Try.prog 206 := enters_of Try.func206 (by kernel_rfl) rfl
theorem en207 : Enters Try.prog 207 := enters_of Try.func207 (by kernel_rfl) rfl
theorem en208 : Enters Try.prog 208 := enters_of Try.func208 (by kernel_rfl) rfl
theorem en209 : Enters Try.prog 209 := enters_of Try.func209 (by kernel_rfl) rfl
theorem en210 : Enters Try.prog 210 := enters_of Try.func210 (by kernel_rfl) rfl
theorem en211 : Enters Try.prog 211 := enters_of Try.func211 (by kernel_rfl) rfl
theorem en212 : Enters Try.prog 212 := enters_of Try.func212 (by kernel_rfl) rfl
theorem en213 : Enters Try.prog 213 := enters_of Try.func213 (by kernel_rfl) rfl
theorem en214 : Enters Try.prog 214 := enters_of Try.func214 (by kernel_rfl) rfl
theorem en215 : Enters Try.prog 215 := enters_of Try.func215 (by kernel_rfl) rfl
theorem en216 : Enters Try.prog 216 := enters_of Try.func216 (by kernel_rfl) rfl
theorem en217 : Enters Try.prog 217 := enters_of Try.func217 (by kernel_rfl) rfl
theorem en218 : Enters Try.prog 218 := enters_of Try.func218 (by kernel_rfl) rfl
theorem en219 : Enters Try.prog 219 := enters_of Try.func219 (by kernel_rfl) rfl
theorem en220 : Enters Try.prog 220 := enters_of Try.func220 (by kernel_rfl) rfl
theorem en221 : Enters Try.prog 221 := enters_of Try.func221 (by kernel_rfl) rfl
theorem en222 : Enters Try.prog 222 := enters_of Try.func222 (by kernel_rfl) rfl
theorem en223 : Enters Try.prog 223 := enters_of Try.func223 (by kernel_rfl) rfl
theorem en224 : Enters Try.prog 224 := enters_of Try.func224 (by kernel_rfl) rfl
theorem en225 : Enters Try.prog 225 := enters_of Try.func225 (by kernel_rfl) rfl
theorem en226 : Enters Try.prog 226 := enters_of Try.func226 (by kernel_rfl) rfl
theorem en227 : Enters Try.prog 227 := enters_of Try.func227 (by kernel_rfl) rfl
theorem en228 : Enters Try.prog 228 := enters_of Try.func228 (by kernel_rfl) rfl
theorem en229 : Enters Try.prog 229 := enters_of Try.func229 (by kernel_rfl) rfl
theorem en230 : Enters Try.prog 230 := enters_of Try.func230 (by kernel_rfl) rfl
theorem en231 : Enters Try.prog 231 := enters_of Try.func231 (by kernel_rfl) rfl
theorem en232 : Enters Try.prog 232 := enters_of Try.func232 (by kernel_rfl) rfl
theorem en233 : Enters Try.prog 233 := enters_of Try.func233 (by kernel_rfl) rfl
theorem en234 : Enters Try.prog 234 := enters_of Try.func234 (by kernel_rfl) rfl
theorem follows : Try.prog.follows .mixedOrders = true := by kernel_rfl
end Go.Proofs.Ytbandmcdkcfpiaa
