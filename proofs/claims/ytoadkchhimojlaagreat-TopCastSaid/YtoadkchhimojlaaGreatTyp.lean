/- Contracts of functions of the given program, without a condition beyond those that each theorem states; they lead to the given statement. -/
import Derived.Test.YtoadkchhimojlaaGreatFlC
import Derived.Test.YtoadkchhimojlaaGreatProg
namespace Go.Proofs.YtoadkchhimojlaaGreat
open Go Go.Fl
theorem T.sz1 : szT Tryz.prog 1 = some 1 := by kernel_rfl
theorem T.by1 : byT Tryz.prog 1 = some 8 := by kernel_rfl
theorem T.ag1 : aggT Tryz.prog 1 = some false := by kernel_rfl
theorem T.ze1 : zeroT Tryz.prog 1 = some [.nilF] := by kernel_rfl
theorem T.el1 : elT Tryz.prog 1 = none := by kernel_rfl
theorem T.fu1 : funcT Tryz.prog 1 = true := by kernel_rfl
theorem T.ik2 : ikT Tryz.prog 2 = some .i64 := by kernel_rfl
theorem T.sz2 : szT Tryz.prog 2 = some 1 := by kernel_rfl
theorem T.by2 : byT Tryz.prog 2 = some 8 := by kernel_rfl
theorem T.ag2 : aggT Tryz.prog 2 = some false := by kernel_rfl
theorem T.ze2 : zeroT Tryz.prog 2 = some [(.int .i64 0)] := by kernel_rfl
theorem T.el2 : elT Tryz.prog 2 = none := by kernel_rfl
theorem T.bo2 : boolT Tryz.prog 2 = false := by kernel_rfl
theorem T.ik3 : ikT Tryz.prog 3 = some .i64 := by kernel_rfl
theorem T.sz3 : szT Tryz.prog 3 = some 1 := by kernel_rfl
theorem T.by3 : byT Tryz.prog 3 = some 8 := by kernel_rfl
theorem T.ag3 : aggT Tryz.prog 3 = some false := by kernel_rfl
theorem T.ze3 : zeroT Tryz.prog 3 = some [(.int .i64 0)] := by kernel_rfl
theorem T.el3 : elT Tryz.prog 3 = none := by kernel_rfl
theorem T.bo3 : boolT Tryz.prog 3 = false := by kernel_rfl
theorem T.sz4 : szT Tryz.prog 4 = some 1 := by kernel_rfl
theorem T.by4 : byT Tryz.prog 4 = some 1 := by kernel_rfl
theorem T.ag4 : aggT Tryz.prog 4 = some false := by kernel_rfl
theorem T.ze4 : zeroT Tryz.prog 4 = some [.bool false] := by kernel_rfl
theorem T.el4 : elT Tryz.prog 4 = none := by kernel_rfl
theorem T.bo4 : boolT Tryz.prog 4 = true := by kernel_rfl
theorem T.sz15 : szT Tryz.prog 15 = some 1 := by kernel_rfl
theorem T.by15 : byT Tryz.prog 15 = some 8 := by kernel_rfl
theorem T.ag15 : aggT Tryz.prog 15 = some false := by kernel_rfl
theorem T.ze15 : zeroT Tryz.prog 15 = some [.nilP] := by kernel_rfl
theorem T.el15 : elT Tryz.prog 15 = none := by kernel_rfl
theorem T.sz16 : szT Tryz.prog 16 = some 1 := by kernel_rfl
theorem T.by16 : byT Tryz.prog 16 = some 8 := by kernel_rfl
theorem T.ag16 : aggT Tryz.prog 16 = some false := by kernel_rfl
theorem T.ze16 : zeroT Tryz.prog 16 = some [.nilP] := by kernel_rfl
theorem T.el16 : elT Tryz.prog 16 = none := by kernel_rfl
theorem T.sz17 : szT Tryz.prog 17 = some 1 := by kernel_rfl
theorem T.by17 : byT Tryz.prog 17 = some 8 := by kernel_rfl
theorem T.ag17 : aggT Tryz.prog 17 = some false := by kernel_rfl
theorem T.ze17 : zeroT Tryz.prog 17 = some [.nilP] := by kernel_rfl
theorem T.el17 : elT Tryz.prog 17 = none := by kernel_rfl
theorem T.sz19 : szT Tryz.prog 19 = some 1 := by kernel_rfl
theorem T.by19 : byT Tryz.prog 19 = some 8 := by kernel_rfl
theorem T.ag19 : aggT Tryz.prog 19 = some true := by kernel_rfl
theorem T.ze19 : zeroT Tryz.prog 19 = some [.nilP] := by kernel_rfl
theorem T.el19 : elT Tryz.prog 19 = none := by kernel_rfl
theorem T.fl19_0 : fldT Tryz.prog 19 0 = some (0, 17) := by kernel_rfl
theorem T.pl19 : plT Tryz.prog 19 = some (some [(0, 1)]) := by kernel_rfl
theorem T.sz22 : szT Tryz.prog 22 = some 1 := by kernel_rfl
theorem T.by22 : byT Tryz.prog 22 = some 24 := by kernel_rfl
theorem T.ag22 : aggT Tryz.prog 22 = some false := by kernel_rfl
theorem T.ze22 : zeroT Tryz.prog 22 = some [.nilS] := by kernel_rfl
theorem T.el22 : elT Tryz.prog 22 = some (93, 3) := by kernel_rfl
theorem T.sz23 : szT Tryz.prog 23 = some 1 := by kernel_rfl
theorem T.by23 : byT Tryz.prog 23 = some 24 := by kernel_rfl
theorem T.ag23 : aggT Tryz.prog 23 = some false := by kernel_rfl
theorem T.ze23 : zeroT Tryz.prog 23 = some [.nilS] := by kernel_rfl
theorem T.el23 : elT Tryz.prog 23 = some (56, 3) := by kernel_rfl
theorem T.sz24 : szT Tryz.prog 24 = some 1 := by kernel_rfl
theorem T.by24 : byT Tryz.prog 24 = some 24 := by kernel_rfl
theorem T.ag24 : aggT Tryz.prog 24 = some false := by kernel_rfl
theorem T.ze24 : zeroT Tryz.prog 24 = some [.nilS] := by kernel_rfl
theorem T.el24 : elT Tryz.prog 24 = some (3, 1) := by kernel_rfl
theorem T.sz26 : szT Tryz.prog 26 = some 4 := by kernel_rfl
theorem T.by26 : byT Tryz.prog 26 = some 80 := by kernel_rfl
theorem T.ag26 : aggT Tryz.prog 26 = some true := by kernel_rfl
theorem T.ze26 : zeroT Tryz.prog 26 = some [.nilS, .nilS, .nilS, (.int .i64 0)] := by kernel_rfl
theorem T.el26 : elT Tryz.prog 26 = none := by kernel_rfl
theorem T.fl26_0 : fldT Tryz.prog 26 0 = some (0, 22) := by kernel_rfl
theorem T.fl26_1 : fldT Tryz.prog 26 1 = some (1, 23) := by kernel_rfl
theorem T.fl26_2 : fldT Tryz.prog 26 2 = some (2, 24) := by kernel_rfl
theorem T.fl26_3 : fldT Tryz.prog 26 3 = some (3, 3) := by kernel_rfl
theorem T.pl26 : plT Tryz.prog 26 = some (some [(0, 1), (1, 1), (2, 1), (3, 1)]) := by kernel_rfl
theorem T.sz27 : szT Tryz.prog 27 = some 1 := by kernel_rfl
theorem T.by27 : byT Tryz.prog 27 = some 24 := by kernel_rfl
theorem T.ag27 : aggT Tryz.prog 27 = some false := by kernel_rfl
theorem T.ze27 : zeroT Tryz.prog 27 = some [.nilS] := by kernel_rfl
theorem T.el27 : elT Tryz.prog 27 = some (24, 1) := by kernel_rfl
theorem T.sz29 : szT Tryz.prog 29 = some 6 := by kernel_rfl
theorem T.by29 : byT Tryz.prog 29 = some 128 := by kernel_rfl
theorem T.ag29 : aggT Tryz.prog 29 = some true := by kernel_rfl
theorem T.ze29 : zeroT Tryz.prog 29 = some [.nilS, .nilS, .nilS, (.int .i64 0), .nilS, .nilS] := by kernel_rfl
theorem T.el29 : elT Tryz.prog 29 = none := by kernel_rfl
theorem T.fl29_0 : fldT Tryz.prog 29 0 = some (0, 26) := by kernel_rfl
theorem T.fl29_1 : fldT Tryz.prog 29 1 = some (4, 24) := by kernel_rfl
theorem T.fl29_2 : fldT Tryz.prog 29 2 = some (5, 27) := by kernel_rfl
theorem T.pl29 : plT Tryz.prog 29 = some (some [(0, 4), (4, 1), (5, 1)]) := by kernel_rfl
theorem T.sz30 : szT Tryz.prog 30 = some 1 := by kernel_rfl
theorem T.by30 : byT Tryz.prog 30 = some 24 := by kernel_rfl
theorem T.ag30 : aggT Tryz.prog 30 = some false := by kernel_rfl
theorem T.ze30 : zeroT Tryz.prog 30 = some [.nilS] := by kernel_rfl
theorem T.el30 : elT Tryz.prog 30 = some (77, 3) := by kernel_rfl
theorem T.sz32 : szT Tryz.prog 32 = some 4 := by kernel_rfl
theorem T.by32 : byT Tryz.prog 32 = some 80 := by kernel_rfl
theorem T.ag32 : aggT Tryz.prog 32 = some true := by kernel_rfl
theorem T.ze32 : zeroT Tryz.prog 32 = some [.nilS, .nilS, .nilS, (.int .i64 0)] := by kernel_rfl
theorem T.el32 : elT Tryz.prog 32 = none := by kernel_rfl
theorem T.fl32_0 : fldT Tryz.prog 32 0 = some (0, 30) := by kernel_rfl
theorem T.fl32_1 : fldT Tryz.prog 32 1 = some (1, 27) := by kernel_rfl
theorem T.fl32_2 : fldT Tryz.prog 32 2 = some (2, 24) := by kernel_rfl
theorem T.fl32_3 : fldT Tryz.prog 32 3 = some (3, 3) := by kernel_rfl
theorem T.pl32 : plT Tryz.prog 32 = some (some [(0, 1), (1, 1), (2, 1), (3, 1)]) := by kernel_rfl
theorem T.ik34 : ikT Tryz.prog 34 = some .i64 := by kernel_rfl
theorem T.sz34 : szT Tryz.prog 34 = some 1 := by kernel_rfl
theorem T.by34 : byT Tryz.prog 34 = some 8 := by kernel_rfl
theorem T.ag34 : aggT Tryz.prog 34 = some false := by kernel_rfl
theorem T.ze34 : zeroT Tryz.prog 34 = some [(.int .i64 0)] := by kernel_rfl
theorem T.el34 : elT Tryz.prog 34 = none := by kernel_rfl
theorem T.bo34 : boolT Tryz.prog 34 = false := by kernel_rfl
theorem T.sz38 : szT Tryz.prog 38 = some 1 := by kernel_rfl
theorem T.by38 : byT Tryz.prog 38 = some 24 := by kernel_rfl
theorem T.ag38 : aggT Tryz.prog 38 = some false := by kernel_rfl
theorem T.ze38 : zeroT Tryz.prog 38 = some [.nilS] := by kernel_rfl
theorem T.el38 : elT Tryz.prog 38 = some (44, 3) := by kernel_rfl
theorem T.sz44 : szT Tryz.prog 44 = some 3 := by kernel_rfl
theorem T.by44 : byT Tryz.prog 44 = some 24 := by kernel_rfl
theorem T.ag44 : aggT Tryz.prog 44 = some true := by kernel_rfl
theorem T.ze44 : zeroT Tryz.prog 44 = some [(.int .i64 0), (.int .i64 0), (.int .i64 0)] := by kernel_rfl
theorem T.el44 : elT Tryz.prog 44 = none := by kernel_rfl
theorem T.fl44_0 : fldT Tryz.prog 44 0 = some (0, 3) := by kernel_rfl
theorem T.fl44_1 : fldT Tryz.prog 44 1 = some (1, 3) := by kernel_rfl
theorem T.fl44_2 : fldT Tryz.prog 44 2 = some (2, 3) := by kernel_rfl
theorem T.pl44 : plT Tryz.prog 44 = some (some [(0, 1), (1, 1), (2, 1)]) := by kernel_rfl
theorem T.fi44 : flatI Tryz.prog 44 = true := by kernel_rfl
theorem T.fn44 : flatN Tryz.prog 44 = 3 := by kernel_rfl
theorem T.sz56 : szT Tryz.prog 56 = some 3 := by kernel_rfl
theorem T.by56 : byT Tryz.prog 56 = some 24 := by kernel_rfl
theorem T.ag56 : aggT Tryz.prog 56 = some true := by kernel_rfl
theorem T.ze56 : zeroT Tryz.prog 56 = some [(.int .i64 0), (.int .i64 0), (.int .i64 0)] := by kernel_rfl
theorem T.el56 : elT Tryz.prog 56 = none := by kernel_rfl
theorem T.fl56_0 : fldT Tryz.prog 56 0 = some (0, 3) := by kernel_rfl
theorem T.fl56_1 : fldT Tryz.prog 56 1 = some (1, 3) := by kernel_rfl
theorem T.fl56_2 : fldT Tryz.prog 56 2 = some (2, 3) := by kernel_rfl
theorem T.pl56 : plT Tryz.prog 56 = some (some [(0, 1), (1, 1), (2, 1)]) := by kernel_rfl
theorem T.fi56 : flatI Tryz.prog 56 = true := by kernel_rfl
theorem T.fn56 : flatN Tryz.prog 56 = 3 := by kernel_rfl
theorem T.sz64 : szT Tryz.prog 64 = some 6 := by kernel_rfl
theorem T.by64 : byT Tryz.prog 64 = some 128 := by kernel_rfl
theorem T.ag64 : aggT Tryz.prog 64 = some true := by kernel_rfl
theorem T.ze64 : zeroT Tryz.prog 64 = some [.nilS, .nilS, .nilS, (.int .i64 0), .nilS, .nilS] := by kernel_rfl
theorem T.el64 : elT Tryz.prog 64 = none := by kernel_rfl
theorem T.fl64_0 : fldT Tryz.prog 64 0 = some (0, 29) := by kernel_rfl
theorem T.pl64 : plT Tryz.prog 64 = some (some [(0, 6)]) := by kernel_rfl
theorem T.sz67 : szT Tryz.prog 67 = some 3 := by kernel_rfl
theorem T.by67 : byT Tryz.prog 67 = some 24 := by kernel_rfl
theorem T.ag67 : aggT Tryz.prog 67 = some true := by kernel_rfl
theorem T.ze67 : zeroT Tryz.prog 67 = some [(.int .i64 0), (.int .i64 0), (.int .i64 0)] := by kernel_rfl
theorem T.el67 : elT Tryz.prog 67 = none := by kernel_rfl
theorem T.ar67 : arT Tryz.prog 67 = some (3, 3, 1) := by kernel_rfl
theorem T.pl67 : plT Tryz.prog 67 = some none := by kernel_rfl
theorem T.sz69 : szT Tryz.prog 69 = some 12 := by kernel_rfl
theorem T.by69 : byT Tryz.prog 69 = some 96 := by kernel_rfl
theorem T.ag69 : aggT Tryz.prog 69 = some true := by kernel_rfl
theorem T.ze69 : zeroT Tryz.prog 69 = some [(.int .i64 0), (.int .i64 0), (.int .i64 0), (.int .i64 0), (.int .i64 0), (.int .i64 0), (.int .i64 0), (.int .i64 0), (.int .i64 0), (.int .i64 0), (.int .i64 0), (.int .i64 0)] := by kernel_rfl
theorem T.el69 : elT Tryz.prog 69 = none := by kernel_rfl
theorem T.ar69 : arT Tryz.prog 69 = some (4, 67, 3) := by kernel_rfl
theorem T.pl69 : plT Tryz.prog 69 = some none := by kernel_rfl
theorem T.sz72 : szT Tryz.prog 72 = some 1 := by kernel_rfl
theorem T.by72 : byT Tryz.prog 72 = some 24 := by kernel_rfl
theorem T.ag72 : aggT Tryz.prog 72 = some false := by kernel_rfl
theorem T.ze72 : zeroT Tryz.prog 72 = some [.nilS] := by kernel_rfl
theorem T.el72 : elT Tryz.prog 72 = some (98, 1) := by kernel_rfl
theorem T.sz75 : szT Tryz.prog 75 = some 1 := by kernel_rfl
theorem T.by75 : byT Tryz.prog 75 = some 8 := by kernel_rfl
theorem T.ag75 : aggT Tryz.prog 75 = some false := by kernel_rfl
theorem T.ze75 : zeroT Tryz.prog 75 = some [.nilF] := by kernel_rfl
theorem T.el75 : elT Tryz.prog 75 = none := by kernel_rfl
theorem T.fu75 : funcT Tryz.prog 75 = true := by kernel_rfl
theorem T.sz77 : szT Tryz.prog 77 = some 3 := by kernel_rfl
theorem T.by77 : byT Tryz.prog 77 = some 24 := by kernel_rfl
theorem T.ag77 : aggT Tryz.prog 77 = some true := by kernel_rfl
theorem T.ze77 : zeroT Tryz.prog 77 = some [(.int .i64 0), (.int .i64 0), (.int .i64 0)] := by kernel_rfl
theorem T.el77 : elT Tryz.prog 77 = none := by kernel_rfl
theorem T.fl77_0 : fldT Tryz.prog 77 0 = some (0, 3) := by kernel_rfl
theorem T.fl77_1 : fldT Tryz.prog 77 1 = some (1, 3) := by kernel_rfl
theorem T.fl77_2 : fldT Tryz.prog 77 2 = some (2, 3) := by kernel_rfl
theorem T.pl77 : plT Tryz.prog 77 = some (some [(0, 1), (1, 1), (2, 1)]) := by kernel_rfl
theorem T.fi77 : flatI Tryz.prog 77 = true := by kernel_rfl
theorem T.fn77 : flatN Tryz.prog 77 = 3 := by kernel_rfl
theorem T.sz79 : szT Tryz.prog 79 = some 1 := by kernel_rfl
theorem T.by79 : byT Tryz.prog 79 = some 8 := by kernel_rfl
theorem T.ag79 : aggT Tryz.prog 79 = some false := by kernel_rfl
theorem T.ze79 : zeroT Tryz.prog 79 = some [.nilP] := by kernel_rfl
theorem T.el79 : elT Tryz.prog 79 = none := by kernel_rfl
theorem T.sz84 : szT Tryz.prog 84 = some 1 := by kernel_rfl
theorem T.by84 : byT Tryz.prog 84 = some 24 := by kernel_rfl
theorem T.ag84 : aggT Tryz.prog 84 = some false := by kernel_rfl
theorem T.ze84 : zeroT Tryz.prog 84 = some [.nilS] := by kernel_rfl
theorem T.el84 : elT Tryz.prog 84 = some (86, 5) := by kernel_rfl
theorem T.sz86 : szT Tryz.prog 86 = some 5 := by kernel_rfl
theorem T.by86 : byT Tryz.prog 86 = some 40 := by kernel_rfl
theorem T.ag86 : aggT Tryz.prog 86 = some true := by kernel_rfl
theorem T.ze86 : zeroT Tryz.prog 86 = some [(.int .i64 0), (.int .i64 0), (.int .i64 0), (.int .i64 0), (.int .i64 0)] := by kernel_rfl
theorem T.el86 : elT Tryz.prog 86 = none := by kernel_rfl
theorem T.ar86 : arT Tryz.prog 86 = some (5, 3, 1) := by kernel_rfl
theorem T.pl86 : plT Tryz.prog 86 = some none := by kernel_rfl
theorem T.sz88 : szT Tryz.prog 88 = some 10 := by kernel_rfl
theorem T.by88 : byT Tryz.prog 88 = some 144 := by kernel_rfl
theorem T.ag88 : aggT Tryz.prog 88 = some true := by kernel_rfl
theorem T.ze88 : zeroT Tryz.prog 88 = some [.nilS, .nilS, .nilS, (.int .i64 0), .nilS, (.int .i64 0), (.int .i64 0), (.int .i64 0), (.int .i64 0), (.int .i64 0)] := by kernel_rfl
theorem T.el88 : elT Tryz.prog 88 = none := by kernel_rfl
theorem T.fl88_0 : fldT Tryz.prog 88 0 = some (0, 32) := by kernel_rfl
theorem T.fl88_1 : fldT Tryz.prog 88 1 = some (4, 84) := by kernel_rfl
theorem T.fl88_2 : fldT Tryz.prog 88 2 = some (5, 86) := by kernel_rfl
theorem T.pl88 : plT Tryz.prog 88 = some (some [(0, 4), (4, 1), (5, 5)]) := by kernel_rfl
theorem T.sz89 : szT Tryz.prog 89 = some 1 := by kernel_rfl
theorem T.by89 : byT Tryz.prog 89 = some 8 := by kernel_rfl
theorem T.ag89 : aggT Tryz.prog 89 = some false := by kernel_rfl
theorem T.ze89 : zeroT Tryz.prog 89 = some [.nilF] := by kernel_rfl
theorem T.el89 : elT Tryz.prog 89 = none := by kernel_rfl
theorem T.fu89 : funcT Tryz.prog 89 = true := by kernel_rfl
theorem T.sz93 : szT Tryz.prog 93 = some 3 := by kernel_rfl
theorem T.by93 : byT Tryz.prog 93 = some 24 := by kernel_rfl
theorem T.ag93 : aggT Tryz.prog 93 = some true := by kernel_rfl
theorem T.ze93 : zeroT Tryz.prog 93 = some [(.int .i64 0), (.int .i64 0), (.int .i64 0)] := by kernel_rfl
theorem T.el93 : elT Tryz.prog 93 = none := by kernel_rfl
theorem T.fl93_0 : fldT Tryz.prog 93 0 = some (0, 3) := by kernel_rfl
theorem T.fl93_1 : fldT Tryz.prog 93 1 = some (1, 3) := by kernel_rfl
theorem T.fl93_2 : fldT Tryz.prog 93 2 = some (2, 3) := by kernel_rfl
theorem T.pl93 : plT Tryz.prog 93 = some (some [(0, 1), (1, 1), (2, 1)]) := by kernel_rfl
theorem T.fi93 : flatI Tryz.prog 93 = true := by kernel_rfl
theorem T.fn93 : flatN Tryz.prog 93 = 3 := by kernel_rfl
theorem T.sz98 : szT Tryz.prog 98 = some 1 := by kernel_rfl
theorem T.by98 : byT Tryz.prog 98 = some 24 := by kernel_rfl
theorem T.ag98 : aggT Tryz.prog 98 = some false := by kernel_rfl
theorem T.ze98 : zeroT Tryz.prog 98 = some [.nilS] := by kernel_rfl
theorem T.el98 : elT Tryz.prog 98 = some (69, 12) := by kernel_rfl
theorem T.sz105 : szT Tryz.prog 105 = some 1 := by kernel_rfl
theorem T.by105 : byT Tryz.prog 105 = some 8 := by kernel_rfl
theorem T.ag105 : aggT Tryz.prog 105 = some false := by kernel_rfl
theorem T.ze105 : zeroT Tryz.prog 105 = some [.nilF] := by kernel_rfl
theorem T.el105 : elT Tryz.prog 105 = none := by kernel_rfl
theorem T.fu105 : funcT Tryz.prog 105 = true := by kernel_rfl
theorem T.sz107 : szT Tryz.prog 107 = some 1 := by kernel_rfl
theorem T.by107 : byT Tryz.prog 107 = some 8 := by kernel_rfl
theorem T.ag107 : aggT Tryz.prog 107 = some false := by kernel_rfl
theorem T.ze107 : zeroT Tryz.prog 107 = some [.nilF] := by kernel_rfl
theorem T.el107 : elT Tryz.prog 107 = none := by kernel_rfl
theorem T.fu107 : funcT Tryz.prog 107 = true := by kernel_rfl
theorem T.sz113 : szT Tryz.prog 113 = some 1 := by kernel_rfl
theorem T.by113 : byT Tryz.prog 113 = some 8 := by kernel_rfl
theorem T.ag113 : aggT Tryz.prog 113 = some false := by kernel_rfl
theorem T.ze113 : zeroT Tryz.prog 113 = some [.nilF] := by kernel_rfl
theorem T.el113 : elT Tryz.prog 113 = none := by kernel_rfl
theorem T.fu113 : funcT Tryz.prog 113 = true := by kernel_rfl
theorem T.sz115 : szT Tryz.prog 115 = some 1 := by kernel_rfl
theorem T.by115 : byT Tryz.prog 115 = some 8 := by kernel_rfl
theorem T.ag115 : aggT Tryz.prog 115 = some false := by kernel_rfl
theorem T.ze115 : zeroT Tryz.prog 115 = some [.nilF] := by kernel_rfl
theorem T.el115 : elT Tryz.prog 115 = none := by kernel_rfl
theorem T.fu115 : funcT Tryz.prog 115 = true := by kernel_rfl
theorem T.sz118 : szT Tryz.prog 118 = some 1 := by kernel_rfl
theorem T.by118 : byT Tryz.prog 118 = some 8 := by kernel_rfl
theorem T.ag118 : aggT Tryz.prog 118 = some false := by kernel_rfl
theorem T.ze118 : zeroT Tryz.prog 118 = some [.val (.map none)] := by kernel_rfl
theorem T.el118 : elT Tryz.prog 118 = none := by kernel_rfl
theorem T.sz119 : szT Tryz.prog 119 = some 1 := by kernel_rfl
theorem T.by119 : byT Tryz.prog 119 = some 8 := by kernel_rfl
theorem T.ag119 : aggT Tryz.prog 119 = some false := by kernel_rfl
theorem T.ze119 : zeroT Tryz.prog 119 = some [.nilF] := by kernel_rfl
theorem T.el119 : elT Tryz.prog 119 = none := by kernel_rfl
theorem T.fu119 : funcT Tryz.prog 119 = true := by kernel_rfl
theorem T.sz123 : szT Tryz.prog 123 = some 1 := by kernel_rfl
theorem T.by123 : byT Tryz.prog 123 = some 8 := by kernel_rfl
theorem T.ag123 : aggT Tryz.prog 123 = some false := by kernel_rfl
theorem T.ze123 : zeroT Tryz.prog 123 = some [.nilF] := by kernel_rfl
theorem T.el123 : elT Tryz.prog 123 = none := by kernel_rfl
theorem T.fu123 : funcT Tryz.prog 123 = true := by kernel_rfl
theorem T.sz124 : szT Tryz.prog 124 = some 1 := by kernel_rfl
theorem T.by124 : byT Tryz.prog 124 = some 8 := by kernel_rfl
theorem T.ag124 : aggT Tryz.prog 124 = some false := by kernel_rfl
theorem T.ze124 : zeroT Tryz.prog 124 = some [.nilF] := by kernel_rfl
theorem T.el124 : elT Tryz.prog 124 = none := by kernel_rfl
theorem T.fu124 : funcT Tryz.prog 124 = true := by kernel_rfl
theorem T.sz127 : szT Tryz.prog 127 = some 1 := by kernel_rfl
theorem T.by127 : byT Tryz.prog 127 = some 8 := by kernel_rfl
theorem T.ag127 : aggT Tryz.prog 127 = some false := by kernel_rfl
theorem T.ze127 : zeroT Tryz.prog 127 = some [.nilF] := by kernel_rfl
theorem T.el127 : elT Tryz.prog 127 = none := by kernel_rfl
theorem T.fu127 : funcT Tryz.prog 127 = true := by kernel_rfl
theorem T.sz132 : szT Tryz.prog 132 = some 1 := by kernel_rfl
theorem T.by132 : byT Tryz.prog 132 = some 8 := by kernel_rfl
theorem T.ag132 : aggT Tryz.prog 132 = some false := by kernel_rfl
theorem T.ze132 : zeroT Tryz.prog 132 = some [.nilF] := by kernel_rfl
theorem T.el132 : elT Tryz.prog 132 = none := by kernel_rfl
theorem T.fu132 : funcT Tryz.prog 132 = true := by kernel_rfl
theorem T.ik137 : ikT Tryz.prog 137 = some .u64 := by kernel_rfl
theorem T.sz137 : szT Tryz.prog 137 = some 1 := by kernel_rfl
theorem T.by137 : byT Tryz.prog 137 = some 8 := by kernel_rfl
theorem T.ag137 : aggT Tryz.prog 137 = some false := by kernel_rfl
theorem T.ze137 : zeroT Tryz.prog 137 = some [(.int .u64 0)] := by kernel_rfl
theorem T.el137 : elT Tryz.prog 137 = none := by kernel_rfl
theorem T.bo137 : boolT Tryz.prog 137 = false := by kernel_rfl
theorem T.sz140 : szT Tryz.prog 140 = some 4 := by kernel_rfl
theorem T.by140 : byT Tryz.prog 140 = some 32 := by kernel_rfl
theorem T.ag140 : aggT Tryz.prog 140 = some true := by kernel_rfl
theorem T.ze140 : zeroT Tryz.prog 140 = some [(.int .i64 0), (.int .i64 0), (.int .i64 0), (.int .i64 0)] := by kernel_rfl
theorem T.el140 : elT Tryz.prog 140 = none := by kernel_rfl
theorem T.ar140 : arT Tryz.prog 140 = some (4, 3, 1) := by kernel_rfl
theorem T.pl140 : plT Tryz.prog 140 = some none := by kernel_rfl
theorem T.sz142 : szT Tryz.prog 142 = some 5 := by kernel_rfl
theorem T.by142 : byT Tryz.prog 142 = some 40 := by kernel_rfl
theorem T.ag142 : aggT Tryz.prog 142 = some true := by kernel_rfl
theorem T.ze142 : zeroT Tryz.prog 142 = some [(.int .i64 0), (.int .i64 0), (.int .i64 0), (.int .i64 0), (.int .i64 0)] := by kernel_rfl
theorem T.el142 : elT Tryz.prog 142 = none := by kernel_rfl
theorem T.ar142 : arT Tryz.prog 142 = some (5, 3, 1) := by kernel_rfl
theorem T.pl142 : plT Tryz.prog 142 = some none := by kernel_rfl
theorem T.ik157 : ikT Tryz.prog 157 = some .u8 := by kernel_rfl
theorem T.sz157 : szT Tryz.prog 157 = some 1 := by kernel_rfl
theorem T.by157 : byT Tryz.prog 157 = some 1 := by kernel_rfl
theorem T.ag157 : aggT Tryz.prog 157 = some false := by kernel_rfl
theorem T.ze157 : zeroT Tryz.prog 157 = some [(.int .u8 0)] := by kernel_rfl
theorem T.el157 : elT Tryz.prog 157 = none := by kernel_rfl
theorem T.bo157 : boolT Tryz.prog 157 = false := by kernel_rfl
theorem T.ai69 : arrI Tryz.prog 69 = true := by kernel_rfl
theorem T.an69 : arrN Tryz.prog 69 = 12 := by kernel_rfl
theorem T.kl118 : keyL Tryz.prog 118 = some 12 := by kernel_rfl
theorem T.mt118 : mapTy Tryz.prog 118 = none := by kernel_rfl
attribute [go_sem] T.sz1 T.by1 T.ag1 T.ze1 T.el1 T.fu1 T.ik2 T.sz2 T.by2 T.ag2 T.ze2 T.el2 T.bo2 T.ik3 T.sz3 T.by3 T.ag3 T.ze3 T.el3 T.bo3 T.sz4 T.by4 T.ag4 T.ze4 T.el4 T.bo4
attribute [go_sem] T.sz15 T.by15 T.ag15 T.ze15 T.el15 T.sz16 T.by16 T.ag16 T.ze16 T.el16 T.sz17 T.by17 T.ag17 T.ze17 T.el17 T.sz19 T.by19 T.ag19 T.ze19 T.el19 T.fl19_0 T.pl19 T.sz22 T.by22 T.ag22 T.ze22
attribute [go_sem] T.el22 T.sz23 T.by23 T.ag23 T.ze23 T.el23 T.sz24 T.by24 T.ag24 T.ze24 T.el24 T.sz26 T.by26 T.ag26 T.ze26 T.el26 T.fl26_0 T.fl26_1 T.fl26_2 T.fl26_3 T.pl26 T.sz27 T.by27 T.ag27 T.ze27 T.el27
attribute [go_sem] T.sz29 T.by29 T.ag29 T.ze29 T.el29 T.fl29_0 T.fl29_1 T.fl29_2 T.pl29 T.sz30 T.by30 T.ag30 T.ze30 T.el30 T.sz32 T.by32 T.ag32 T.ze32 T.el32 T.fl32_0 T.fl32_1 T.fl32_2 T.fl32_3 T.pl32
attribute [go_sem] T.ik34 T.sz34 T.by34 T.ag34 T.ze34 T.el34 T.bo34 T.sz38 T.by38 T.ag38 T.ze38 T.el38
attribute [go_sem] T.sz44 T.by44 T.ag44 T.ze44 T.el44 T.fl44_0 T.fl44_1 T.fl44_2 T.pl44 T.fi44 T.fn44
attribute [go_sem] T.sz56 T.by56 T.ag56 T.ze56 T.el56 T.fl56_0 T.fl56_1 T.fl56_2 T.pl56 T.fi56 T.fn56
attribute [go_sem] T.sz64 T.by64 T.ag64 T.ze64 T.el64 T.fl64_0 T.pl64 T.sz67 T.by67 T.ag67 T.ze67 T.el67 T.ar67 T.pl67
attribute [go_sem] T.sz69 T.by69 T.ag69 T.ze69 T.el69 T.ar69 T.pl69 T.sz72 T.by72 T.ag72 T.ze72 T.el72 T.sz75 T.by75 T.ag75 T.ze75 T.el75 T.fu75
attribute [go_sem] T.sz77 T.by77 T.ag77 T.ze77 T.el77 T.fl77_0 T.fl77_1 T.fl77_2 T.pl77 T.fi77 T.fn77 T.sz79 T.by79 T.ag79 T.ze79 T.el79
attribute [go_sem] T.sz84 T.by84 T.ag84 T.ze84 T.el84 T.sz86 T.by86 T.ag86 T.ze86 T.el86 T.ar86 T.pl86 T.sz88 T.by88
attribute [go_sem] T.ag88 T.ze88 T.el88 T.fl88_0 T.fl88_1 T.fl88_2 T.pl88 T.sz89 T.by89 T.ag89 T.ze89 T.el89 T.fu89 T.sz93 T.by93 T.ag93 T.ze93
attribute [go_sem] T.el93 T.fl93_0 T.fl93_1 T.fl93_2 T.pl93 T.fi93 T.fn93 T.sz98 T.by98 T.ag98 T.ze98 T.el98
attribute [go_sem] T.sz105 T.by105 T.ag105 T.ze105 T.el105 T.fu105
attribute [go_sem] T.sz107 T.by107 T.ag107 T.ze107 T.el107 T.fu107
attribute [go_sem] T.sz113 T.by113 T.ag113 T.ze113 T.el113 T.fu113 T.sz115 T.by115 T.ag115 T.ze115 T.el115 T.fu115 T.sz118 T.by118 T.ag118 T.ze118 T.el118 T.sz119 T.by119 T.ag119 T.ze119 T.el119
attribute [go_sem] T.fu119 T.sz123 T.by123 T.ag123 T.ze123 T.el123 T.fu123 T.sz124 T.by124 T.ag124 T.ze124 T.el124 T.fu124
attribute [go_sem] T.sz127 T.by127 T.ag127 T.ze127 T.el127 T.fu127 T.sz132 T.by132 T.ag132 T.ze132 T.el132 T.fu132
attribute [go_sem] T.ik137 T.sz137 T.by137 T.ag137 T.ze137 T.el137 T.bo137
attribute [go_sem] T.sz140 T.by140 T.ag140 T.ze140 T.el140 T.ar140 T.pl140 T.sz142 T.by142 T.ag142 T.ze142 T.el142 T.ar142 T.pl142
attribute [go_sem] T.ik157 T.sz157 T.by157 T.ag157 T.ze157 T.el157 T.bo157
attribute [go_sem] T.ai69 T.an69 T.kl118 T.mt118
end Go.Proofs.YtoadkchhimojlaaGreat

