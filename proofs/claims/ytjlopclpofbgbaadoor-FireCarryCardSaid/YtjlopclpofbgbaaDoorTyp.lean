/- Contracts of functions of the given program, without a condition beyond those that each theorem states; they lead to the given statement. -/
import Derived.Test.YtjlopclpofbgbaaDoorFlB
import Derived.Test.YtjlopclpofbgbaaDoorProg
namespace Go.Proofs.YtjlopclpofbgbaaDoor
open Go Go.Fl
theorem T.sz1 : szT Tryd.prog 1 = some 1 := by kernel_rfl
theorem T.by1 : byT Tryd.prog 1 = some 8 := by kernel_rfl
theorem T.ag1 : aggT Tryd.prog 1 = some false := by kernel_rfl
theorem T.ze1 : zeroT Tryd.prog 1 = some [.nilF] := by kernel_rfl
theorem T.el1 : elT Tryd.prog 1 = none := by kernel_rfl
theorem T.fu1 : funcT Tryd.prog 1 = true := by kernel_rfl
theorem T.ik2 : ikT Tryd.prog 2 = some .i64 := by kernel_rfl
theorem T.sz2 : szT Tryd.prog 2 = some 1 := by kernel_rfl
theorem T.by2 : byT Tryd.prog 2 = some 8 := by kernel_rfl
theorem T.ag2 : aggT Tryd.prog 2 = some false := by kernel_rfl
theorem T.ze2 : zeroT Tryd.prog 2 = some [(.int .i64 0)] := by kernel_rfl
theorem T.el2 : elT Tryd.prog 2 = none := by kernel_rfl
theorem T.bo2 : boolT Tryd.prog 2 = false := by kernel_rfl
theorem T.ik3 : ikT Tryd.prog 3 = some .i64 := by kernel_rfl
theorem T.sz3 : szT Tryd.prog 3 = some 1 := by kernel_rfl
theorem T.by3 : byT Tryd.prog 3 = some 8 := by kernel_rfl
theorem T.ag3 : aggT Tryd.prog 3 = some false := by kernel_rfl
theorem T.ze3 : zeroT Tryd.prog 3 = some [(.int .i64 0)] := by kernel_rfl
theorem T.el3 : elT Tryd.prog 3 = none := by kernel_rfl
theorem T.bo3 : boolT Tryd.prog 3 = false := by kernel_rfl
theorem T.sz4 : szT Tryd.prog 4 = some 1 := by kernel_rfl
theorem T.by4 : byT Tryd.prog 4 = some 1 := by kernel_rfl
theorem T.ag4 : aggT Tryd.prog 4 = some false := by kernel_rfl
theorem T.ze4 : zeroT Tryd.prog 4 = some [.bool false] := by kernel_rfl
theorem T.el4 : elT Tryd.prog 4 = none := by kernel_rfl
theorem T.bo4 : boolT Tryd.prog 4 = true := by kernel_rfl
theorem T.ik5 : ikT Tryd.prog 5 = some .u8 := by kernel_rfl
theorem T.sz5 : szT Tryd.prog 5 = some 1 := by kernel_rfl
theorem T.by5 : byT Tryd.prog 5 = some 1 := by kernel_rfl
theorem T.ag5 : aggT Tryd.prog 5 = some false := by kernel_rfl
theorem T.ze5 : zeroT Tryd.prog 5 = some [(.int .u8 0)] := by kernel_rfl
theorem T.el5 : elT Tryd.prog 5 = none := by kernel_rfl
theorem T.bo5 : boolT Tryd.prog 5 = false := by kernel_rfl
theorem T.ik6 : ikT Tryd.prog 6 = some .u8 := by kernel_rfl
theorem T.sz6 : szT Tryd.prog 6 = some 1 := by kernel_rfl
theorem T.by6 : byT Tryd.prog 6 = some 1 := by kernel_rfl
theorem T.ag6 : aggT Tryd.prog 6 = some false := by kernel_rfl
theorem T.ze6 : zeroT Tryd.prog 6 = some [(.int .u8 0)] := by kernel_rfl
theorem T.el6 : elT Tryd.prog 6 = none := by kernel_rfl
theorem T.bo6 : boolT Tryd.prog 6 = false := by kernel_rfl
theorem T.ik12 : ikT Tryd.prog 12 = some .u64 := by kernel_rfl
theorem T.sz12 : szT Tryd.prog 12 = some 1 := by kernel_rfl
theorem T.by12 : byT Tryd.prog 12 = some 8 := by kernel_rfl
theorem T.ag12 : aggT Tryd.prog 12 = some false := by kernel_rfl
theorem T.ze12 : zeroT Tryd.prog 12 = some [(.int .u64 0)] := by kernel_rfl
theorem T.el12 : elT Tryd.prog 12 = none := by kernel_rfl
theorem T.bo12 : boolT Tryd.prog 12 = false := by kernel_rfl
theorem T.sz15 : szT Tryd.prog 15 = some 1 := by kernel_rfl
theorem T.by15 : byT Tryd.prog 15 = some 8 := by kernel_rfl
theorem T.ag15 : aggT Tryd.prog 15 = some false := by kernel_rfl
theorem T.ze15 : zeroT Tryd.prog 15 = some [.nilP] := by kernel_rfl
theorem T.el15 : elT Tryd.prog 15 = none := by kernel_rfl
theorem T.sz16 : szT Tryd.prog 16 = some 1 := by kernel_rfl
theorem T.by16 : byT Tryd.prog 16 = some 8 := by kernel_rfl
theorem T.ag16 : aggT Tryd.prog 16 = some false := by kernel_rfl
theorem T.ze16 : zeroT Tryd.prog 16 = some [.nilP] := by kernel_rfl
theorem T.el16 : elT Tryd.prog 16 = none := by kernel_rfl
theorem T.sz17 : szT Tryd.prog 17 = some 1 := by kernel_rfl
theorem T.by17 : byT Tryd.prog 17 = some 8 := by kernel_rfl
theorem T.ag17 : aggT Tryd.prog 17 = some false := by kernel_rfl
theorem T.ze17 : zeroT Tryd.prog 17 = some [.nilP] := by kernel_rfl
theorem T.el17 : elT Tryd.prog 17 = none := by kernel_rfl
theorem T.sz18 : szT Tryd.prog 18 = some 1 := by kernel_rfl
theorem T.by18 : byT Tryd.prog 18 = some 8 := by kernel_rfl
theorem T.ag18 : aggT Tryd.prog 18 = some true := by kernel_rfl
theorem T.ze18 : zeroT Tryd.prog 18 = some [.nilP] := by kernel_rfl
theorem T.el18 : elT Tryd.prog 18 = none := by kernel_rfl
theorem T.fl18_0 : fldT Tryd.prog 18 0 = some (0, 17) := by kernel_rfl
theorem T.pl18 : plT Tryd.prog 18 = some (some [(0, 1)]) := by kernel_rfl
theorem T.sz19 : szT Tryd.prog 19 = some 1 := by kernel_rfl
theorem T.by19 : byT Tryd.prog 19 = some 8 := by kernel_rfl
theorem T.ag19 : aggT Tryd.prog 19 = some true := by kernel_rfl
theorem T.ze19 : zeroT Tryd.prog 19 = some [.nilP] := by kernel_rfl
theorem T.el19 : elT Tryd.prog 19 = none := by kernel_rfl
theorem T.fl19_0 : fldT Tryd.prog 19 0 = some (0, 17) := by kernel_rfl
theorem T.pl19 : plT Tryd.prog 19 = some (some [(0, 1)]) := by kernel_rfl
theorem T.sz22 : szT Tryd.prog 22 = some 1 := by kernel_rfl
theorem T.by22 : byT Tryd.prog 22 = some 24 := by kernel_rfl
theorem T.ag22 : aggT Tryd.prog 22 = some false := by kernel_rfl
theorem T.ze22 : zeroT Tryd.prog 22 = some [.nilS] := by kernel_rfl
theorem T.el22 : elT Tryd.prog 22 = some (68, 4) := by kernel_rfl
theorem T.sz23 : szT Tryd.prog 23 = some 1 := by kernel_rfl
theorem T.by23 : byT Tryd.prog 23 = some 24 := by kernel_rfl
theorem T.ag23 : aggT Tryd.prog 23 = some false := by kernel_rfl
theorem T.ze23 : zeroT Tryd.prog 23 = some [.nilS] := by kernel_rfl
theorem T.el23 : elT Tryd.prog 23 = some (59, 3) := by kernel_rfl
theorem T.sz24 : szT Tryd.prog 24 = some 2 := by kernel_rfl
theorem T.by24 : byT Tryd.prog 24 = some 48 := by kernel_rfl
theorem T.ag24 : aggT Tryd.prog 24 = some true := by kernel_rfl
theorem T.ze24 : zeroT Tryd.prog 24 = some [.nilS, .nilS] := by kernel_rfl
theorem T.el24 : elT Tryd.prog 24 = none := by kernel_rfl
theorem T.fl24_0 : fldT Tryd.prog 24 0 = some (0, 22) := by kernel_rfl
theorem T.fl24_1 : fldT Tryd.prog 24 1 = some (1, 23) := by kernel_rfl
theorem T.pl24 : plT Tryd.prog 24 = some (some [(0, 1), (1, 1)]) := by kernel_rfl
theorem T.sz25 : szT Tryd.prog 25 = some 2 := by kernel_rfl
theorem T.by25 : byT Tryd.prog 25 = some 48 := by kernel_rfl
theorem T.ag25 : aggT Tryd.prog 25 = some true := by kernel_rfl
theorem T.ze25 : zeroT Tryd.prog 25 = some [.nilS, .nilS] := by kernel_rfl
theorem T.el25 : elT Tryd.prog 25 = none := by kernel_rfl
theorem T.fl25_0 : fldT Tryd.prog 25 0 = some (0, 22) := by kernel_rfl
theorem T.fl25_1 : fldT Tryd.prog 25 1 = some (1, 23) := by kernel_rfl
theorem T.pl25 : plT Tryd.prog 25 = some (some [(0, 1), (1, 1)]) := by kernel_rfl
theorem T.sz26 : szT Tryd.prog 26 = some 1 := by kernel_rfl
theorem T.by26 : byT Tryd.prog 26 = some 24 := by kernel_rfl
theorem T.ag26 : aggT Tryd.prog 26 = some false := by kernel_rfl
theorem T.ze26 : zeroT Tryd.prog 26 = some [.nilS] := by kernel_rfl
theorem T.el26 : elT Tryd.prog 26 = some (3, 1) := by kernel_rfl
theorem T.sz27 : szT Tryd.prog 27 = some 6 := by kernel_rfl
theorem T.by27 : byT Tryd.prog 27 = some 128 := by kernel_rfl
theorem T.ag27 : aggT Tryd.prog 27 = some true := by kernel_rfl
theorem T.ze27 : zeroT Tryd.prog 27 = some [.nilS, .nilS, .nilS, .nilS, .nilS, (.int .i64 0)] := by kernel_rfl
theorem T.el27 : elT Tryd.prog 27 = none := by kernel_rfl
theorem T.fl27_0 : fldT Tryd.prog 27 0 = some (0, 25) := by kernel_rfl
theorem T.fl27_1 : fldT Tryd.prog 27 1 = some (2, 26) := by kernel_rfl
theorem T.fl27_2 : fldT Tryd.prog 27 2 = some (3, 26) := by kernel_rfl
theorem T.fl27_3 : fldT Tryd.prog 27 3 = some (4, 26) := by kernel_rfl
theorem T.fl27_4 : fldT Tryd.prog 27 4 = some (5, 3) := by kernel_rfl
theorem T.pl27 : plT Tryd.prog 27 = some (some [(0, 2), (2, 1), (3, 1), (4, 1), (5, 1)]) := by kernel_rfl
theorem T.sz28 : szT Tryd.prog 28 = some 6 := by kernel_rfl
theorem T.by28 : byT Tryd.prog 28 = some 128 := by kernel_rfl
theorem T.ag28 : aggT Tryd.prog 28 = some true := by kernel_rfl
theorem T.ze28 : zeroT Tryd.prog 28 = some [.nilS, .nilS, .nilS, .nilS, .nilS, (.int .i64 0)] := by kernel_rfl
theorem T.el28 : elT Tryd.prog 28 = none := by kernel_rfl
theorem T.fl28_0 : fldT Tryd.prog 28 0 = some (0, 25) := by kernel_rfl
theorem T.fl28_1 : fldT Tryd.prog 28 1 = some (2, 26) := by kernel_rfl
theorem T.fl28_2 : fldT Tryd.prog 28 2 = some (3, 26) := by kernel_rfl
theorem T.fl28_3 : fldT Tryd.prog 28 3 = some (4, 26) := by kernel_rfl
theorem T.fl28_4 : fldT Tryd.prog 28 4 = some (5, 3) := by kernel_rfl
theorem T.pl28 : plT Tryd.prog 28 = some (some [(0, 2), (2, 1), (3, 1), (4, 1), (5, 1)]) := by kernel_rfl
theorem T.sz29 : szT Tryd.prog 29 = some 5 := by kernel_rfl
theorem T.by29 : byT Tryd.prog 29 = some 40 := by kernel_rfl
theorem T.ag29 : aggT Tryd.prog 29 = some true := by kernel_rfl
theorem T.ze29 : zeroT Tryd.prog 29 = some [(.int .i64 0), (.int .i64 0), (.int .i64 0), (.int .i64 0), (.int .i64 0)] := by kernel_rfl
theorem T.el29 : elT Tryd.prog 29 = none := by kernel_rfl
theorem T.fl29_0 : fldT Tryd.prog 29 0 = some (0, 3) := by kernel_rfl
theorem T.fl29_1 : fldT Tryd.prog 29 1 = some (1, 3) := by kernel_rfl
theorem T.fl29_2 : fldT Tryd.prog 29 2 = some (2, 3) := by kernel_rfl
theorem T.fl29_3 : fldT Tryd.prog 29 3 = some (3, 3) := by kernel_rfl
theorem T.fl29_4 : fldT Tryd.prog 29 4 = some (4, 3) := by kernel_rfl
theorem T.pl29 : plT Tryd.prog 29 = some (some [(0, 1), (1, 1), (2, 1), (3, 1), (4, 1)]) := by kernel_rfl
theorem T.fi29 : flatI Tryd.prog 29 = true := by kernel_rfl
theorem T.fn29 : flatN Tryd.prog 29 = 5 := by kernel_rfl
theorem T.sz30 : szT Tryd.prog 30 = some 5 := by kernel_rfl
theorem T.by30 : byT Tryd.prog 30 = some 40 := by kernel_rfl
theorem T.ag30 : aggT Tryd.prog 30 = some true := by kernel_rfl
theorem T.ze30 : zeroT Tryd.prog 30 = some [(.int .i64 0), (.int .i64 0), (.int .i64 0), (.int .i64 0), (.int .i64 0)] := by kernel_rfl
theorem T.el30 : elT Tryd.prog 30 = none := by kernel_rfl
theorem T.fl30_0 : fldT Tryd.prog 30 0 = some (0, 3) := by kernel_rfl
theorem T.fl30_1 : fldT Tryd.prog 30 1 = some (1, 3) := by kernel_rfl
theorem T.fl30_2 : fldT Tryd.prog 30 2 = some (2, 3) := by kernel_rfl
theorem T.fl30_3 : fldT Tryd.prog 30 3 = some (3, 3) := by kernel_rfl
theorem T.fl30_4 : fldT Tryd.prog 30 4 = some (4, 3) := by kernel_rfl
theorem T.pl30 : plT Tryd.prog 30 = some (some [(0, 1), (1, 1), (2, 1), (3, 1), (4, 1)]) := by kernel_rfl
theorem T.fi30 : flatI Tryd.prog 30 = true := by kernel_rfl
theorem T.fn30 : flatN Tryd.prog 30 = 5 := by kernel_rfl
theorem T.sz31 : szT Tryd.prog 31 = some 1 := by kernel_rfl
theorem T.by31 : byT Tryd.prog 31 = some 8 := by kernel_rfl
theorem T.ag31 : aggT Tryd.prog 31 = some false := by kernel_rfl
theorem T.ze31 : zeroT Tryd.prog 31 = some [.nilF] := by kernel_rfl
theorem T.el31 : elT Tryd.prog 31 = none := by kernel_rfl
theorem T.fu31 : funcT Tryd.prog 31 = true := by kernel_rfl
theorem T.sz32 : szT Tryd.prog 32 = some 1 := by kernel_rfl
theorem T.by32 : byT Tryd.prog 32 = some 8 := by kernel_rfl
theorem T.ag32 : aggT Tryd.prog 32 = some false := by kernel_rfl
theorem T.ze32 : zeroT Tryd.prog 32 = some [.nilF] := by kernel_rfl
theorem T.el32 : elT Tryd.prog 32 = none := by kernel_rfl
theorem T.fu32 : funcT Tryd.prog 32 = true := by kernel_rfl
theorem T.sz34 : szT Tryd.prog 34 = some 1 := by kernel_rfl
theorem T.by34 : byT Tryd.prog 34 = some 8 := by kernel_rfl
theorem T.ag34 : aggT Tryd.prog 34 = some false := by kernel_rfl
theorem T.ze34 : zeroT Tryd.prog 34 = some [.nilF] := by kernel_rfl
theorem T.el34 : elT Tryd.prog 34 = none := by kernel_rfl
theorem T.fu34 : funcT Tryd.prog 34 = true := by kernel_rfl
theorem T.sz35 : szT Tryd.prog 35 = some 1 := by kernel_rfl
theorem T.by35 : byT Tryd.prog 35 = some 8 := by kernel_rfl
theorem T.ag35 : aggT Tryd.prog 35 = some false := by kernel_rfl
theorem T.ze35 : zeroT Tryd.prog 35 = some [.nilF] := by kernel_rfl
theorem T.el35 : elT Tryd.prog 35 = none := by kernel_rfl
theorem T.fu35 : funcT Tryd.prog 35 = true := by kernel_rfl
theorem T.sz36 : szT Tryd.prog 36 = some 1 := by kernel_rfl
theorem T.by36 : byT Tryd.prog 36 = some 8 := by kernel_rfl
theorem T.ag36 : aggT Tryd.prog 36 = some false := by kernel_rfl
theorem T.ze36 : zeroT Tryd.prog 36 = some [.nilF] := by kernel_rfl
theorem T.el36 : elT Tryd.prog 36 = none := by kernel_rfl
theorem T.fu36 : funcT Tryd.prog 36 = true := by kernel_rfl
theorem T.sz37 : szT Tryd.prog 37 = some 1 := by kernel_rfl
theorem T.by37 : byT Tryd.prog 37 = some 8 := by kernel_rfl
theorem T.ag37 : aggT Tryd.prog 37 = some false := by kernel_rfl
theorem T.ze37 : zeroT Tryd.prog 37 = some [.nilF] := by kernel_rfl
theorem T.el37 : elT Tryd.prog 37 = none := by kernel_rfl
theorem T.fu37 : funcT Tryd.prog 37 = true := by kernel_rfl
theorem T.ik38 : ikT Tryd.prog 38 = some .i64 := by kernel_rfl
theorem T.sz38 : szT Tryd.prog 38 = some 1 := by kernel_rfl
theorem T.by38 : byT Tryd.prog 38 = some 8 := by kernel_rfl
theorem T.ag38 : aggT Tryd.prog 38 = some false := by kernel_rfl
theorem T.ze38 : zeroT Tryd.prog 38 = some [(.int .i64 0)] := by kernel_rfl
theorem T.el38 : elT Tryd.prog 38 = none := by kernel_rfl
theorem T.bo38 : boolT Tryd.prog 38 = false := by kernel_rfl
theorem T.sz40 : szT Tryd.prog 40 = some 1 := by kernel_rfl
theorem T.by40 : byT Tryd.prog 40 = some 8 := by kernel_rfl
theorem T.ag40 : aggT Tryd.prog 40 = some false := by kernel_rfl
theorem T.ze40 : zeroT Tryd.prog 40 = some [.nilF] := by kernel_rfl
theorem T.el40 : elT Tryd.prog 40 = none := by kernel_rfl
theorem T.fu40 : funcT Tryd.prog 40 = true := by kernel_rfl
theorem T.sz41 : szT Tryd.prog 41 = some 1 := by kernel_rfl
theorem T.by41 : byT Tryd.prog 41 = some 8 := by kernel_rfl
theorem T.ag41 : aggT Tryd.prog 41 = some false := by kernel_rfl
theorem T.ze41 : zeroT Tryd.prog 41 = some [.nilF] := by kernel_rfl
theorem T.el41 : elT Tryd.prog 41 = none := by kernel_rfl
theorem T.fu41 : funcT Tryd.prog 41 = true := by kernel_rfl
theorem T.sz42 : szT Tryd.prog 42 = some 1 := by kernel_rfl
theorem T.by42 : byT Tryd.prog 42 = some 8 := by kernel_rfl
theorem T.ag42 : aggT Tryd.prog 42 = some false := by kernel_rfl
theorem T.ze42 : zeroT Tryd.prog 42 = some [.nilF] := by kernel_rfl
theorem T.el42 : elT Tryd.prog 42 = none := by kernel_rfl
theorem T.fu42 : funcT Tryd.prog 42 = true := by kernel_rfl
theorem T.sz43 : szT Tryd.prog 43 = some 1 := by kernel_rfl
theorem T.by43 : byT Tryd.prog 43 = some 8 := by kernel_rfl
theorem T.ag43 : aggT Tryd.prog 43 = some false := by kernel_rfl
theorem T.ze43 : zeroT Tryd.prog 43 = some [.nilF] := by kernel_rfl
theorem T.el43 : elT Tryd.prog 43 = none := by kernel_rfl
theorem T.fu43 : funcT Tryd.prog 43 = true := by kernel_rfl
theorem T.sz44 : szT Tryd.prog 44 = some 1 := by kernel_rfl
theorem T.by44 : byT Tryd.prog 44 = some 8 := by kernel_rfl
theorem T.ag44 : aggT Tryd.prog 44 = some false := by kernel_rfl
theorem T.ze44 : zeroT Tryd.prog 44 = some [.nilF] := by kernel_rfl
theorem T.el44 : elT Tryd.prog 44 = none := by kernel_rfl
theorem T.fu44 : funcT Tryd.prog 44 = true := by kernel_rfl
theorem T.sz46 : szT Tryd.prog 46 = some 1 := by kernel_rfl
theorem T.by46 : byT Tryd.prog 46 = some 8 := by kernel_rfl
theorem T.ag46 : aggT Tryd.prog 46 = some false := by kernel_rfl
theorem T.ze46 : zeroT Tryd.prog 46 = some [.nilF] := by kernel_rfl
theorem T.el46 : elT Tryd.prog 46 = none := by kernel_rfl
theorem T.fu46 : funcT Tryd.prog 46 = true := by kernel_rfl
theorem T.sz47 : szT Tryd.prog 47 = some 1 := by kernel_rfl
theorem T.by47 : byT Tryd.prog 47 = some 8 := by kernel_rfl
theorem T.ag47 : aggT Tryd.prog 47 = some false := by kernel_rfl
theorem T.ze47 : zeroT Tryd.prog 47 = some [.nilF] := by kernel_rfl
theorem T.el47 : elT Tryd.prog 47 = none := by kernel_rfl
theorem T.fu47 : funcT Tryd.prog 47 = true := by kernel_rfl
theorem T.sz49 : szT Tryd.prog 49 = some 1 := by kernel_rfl
theorem T.by49 : byT Tryd.prog 49 = some 8 := by kernel_rfl
theorem T.ag49 : aggT Tryd.prog 49 = some false := by kernel_rfl
theorem T.ze49 : zeroT Tryd.prog 49 = some [.nilF] := by kernel_rfl
theorem T.el49 : elT Tryd.prog 49 = none := by kernel_rfl
theorem T.fu49 : funcT Tryd.prog 49 = true := by kernel_rfl
theorem T.sz50 : szT Tryd.prog 50 = some 1 := by kernel_rfl
theorem T.by50 : byT Tryd.prog 50 = some 8 := by kernel_rfl
theorem T.ag50 : aggT Tryd.prog 50 = some false := by kernel_rfl
theorem T.ze50 : zeroT Tryd.prog 50 = some [.nilF] := by kernel_rfl
theorem T.el50 : elT Tryd.prog 50 = none := by kernel_rfl
theorem T.fu50 : funcT Tryd.prog 50 = true := by kernel_rfl
theorem T.sz51 : szT Tryd.prog 51 = some 1 := by kernel_rfl
theorem T.by51 : byT Tryd.prog 51 = some 8 := by kernel_rfl
theorem T.ag51 : aggT Tryd.prog 51 = some false := by kernel_rfl
theorem T.ze51 : zeroT Tryd.prog 51 = some [.nilF] := by kernel_rfl
theorem T.el51 : elT Tryd.prog 51 = none := by kernel_rfl
theorem T.fu51 : funcT Tryd.prog 51 = true := by kernel_rfl
theorem T.sz53 : szT Tryd.prog 53 = some 1 := by kernel_rfl
theorem T.by53 : byT Tryd.prog 53 = some 8 := by kernel_rfl
theorem T.ag53 : aggT Tryd.prog 53 = some false := by kernel_rfl
theorem T.ze53 : zeroT Tryd.prog 53 = some [.nilF] := by kernel_rfl
theorem T.el53 : elT Tryd.prog 53 = none := by kernel_rfl
theorem T.fu53 : funcT Tryd.prog 53 = true := by kernel_rfl
theorem T.sz54 : szT Tryd.prog 54 = some 1 := by kernel_rfl
theorem T.by54 : byT Tryd.prog 54 = some 8 := by kernel_rfl
theorem T.ag54 : aggT Tryd.prog 54 = some false := by kernel_rfl
theorem T.ze54 : zeroT Tryd.prog 54 = some [.nilF] := by kernel_rfl
theorem T.el54 : elT Tryd.prog 54 = none := by kernel_rfl
theorem T.fu54 : funcT Tryd.prog 54 = true := by kernel_rfl
theorem T.sz55 : szT Tryd.prog 55 = some 1 := by kernel_rfl
theorem T.by55 : byT Tryd.prog 55 = some 8 := by kernel_rfl
theorem T.ag55 : aggT Tryd.prog 55 = some false := by kernel_rfl
theorem T.ze55 : zeroT Tryd.prog 55 = some [.nilF] := by kernel_rfl
theorem T.el55 : elT Tryd.prog 55 = none := by kernel_rfl
theorem T.fu55 : funcT Tryd.prog 55 = true := by kernel_rfl
theorem T.sz57 : szT Tryd.prog 57 = some 1 := by kernel_rfl
theorem T.by57 : byT Tryd.prog 57 = some 8 := by kernel_rfl
theorem T.ag57 : aggT Tryd.prog 57 = some false := by kernel_rfl
theorem T.ze57 : zeroT Tryd.prog 57 = some [.nilF] := by kernel_rfl
theorem T.el57 : elT Tryd.prog 57 = none := by kernel_rfl
theorem T.fu57 : funcT Tryd.prog 57 = true := by kernel_rfl
theorem T.sz58 : szT Tryd.prog 58 = some 3 := by kernel_rfl
theorem T.by58 : byT Tryd.prog 58 = some 24 := by kernel_rfl
theorem T.ag58 : aggT Tryd.prog 58 = some true := by kernel_rfl
theorem T.ze58 : zeroT Tryd.prog 58 = some [(.int .i64 0), (.int .i64 0), (.int .i64 0)] := by kernel_rfl
theorem T.el58 : elT Tryd.prog 58 = none := by kernel_rfl
theorem T.fl58_0 : fldT Tryd.prog 58 0 = some (0, 3) := by kernel_rfl
theorem T.fl58_1 : fldT Tryd.prog 58 1 = some (1, 3) := by kernel_rfl
theorem T.fl58_2 : fldT Tryd.prog 58 2 = some (2, 3) := by kernel_rfl
theorem T.pl58 : plT Tryd.prog 58 = some (some [(0, 1), (1, 1), (2, 1)]) := by kernel_rfl
theorem T.fi58 : flatI Tryd.prog 58 = true := by kernel_rfl
theorem T.fn58 : flatN Tryd.prog 58 = 3 := by kernel_rfl
theorem T.sz59 : szT Tryd.prog 59 = some 3 := by kernel_rfl
theorem T.by59 : byT Tryd.prog 59 = some 24 := by kernel_rfl
theorem T.ag59 : aggT Tryd.prog 59 = some true := by kernel_rfl
theorem T.ze59 : zeroT Tryd.prog 59 = some [(.int .i64 0), (.int .i64 0), (.int .i64 0)] := by kernel_rfl
theorem T.el59 : elT Tryd.prog 59 = none := by kernel_rfl
theorem T.fl59_0 : fldT Tryd.prog 59 0 = some (0, 3) := by kernel_rfl
theorem T.fl59_1 : fldT Tryd.prog 59 1 = some (1, 3) := by kernel_rfl
theorem T.fl59_2 : fldT Tryd.prog 59 2 = some (2, 3) := by kernel_rfl
theorem T.pl59 : plT Tryd.prog 59 = some (some [(0, 1), (1, 1), (2, 1)]) := by kernel_rfl
theorem T.fi59 : flatI Tryd.prog 59 = true := by kernel_rfl
theorem T.fn59 : flatN Tryd.prog 59 = 3 := by kernel_rfl
theorem T.sz60 : szT Tryd.prog 60 = some 1 := by kernel_rfl
theorem T.by60 : byT Tryd.prog 60 = some 8 := by kernel_rfl
theorem T.ag60 : aggT Tryd.prog 60 = some false := by kernel_rfl
theorem T.ze60 : zeroT Tryd.prog 60 = some [.nilF] := by kernel_rfl
theorem T.el60 : elT Tryd.prog 60 = none := by kernel_rfl
theorem T.fu60 : funcT Tryd.prog 60 = true := by kernel_rfl
theorem T.sz61 : szT Tryd.prog 61 = some 1 := by kernel_rfl
theorem T.by61 : byT Tryd.prog 61 = some 8 := by kernel_rfl
theorem T.ag61 : aggT Tryd.prog 61 = some false := by kernel_rfl
theorem T.ze61 : zeroT Tryd.prog 61 = some [.nilF] := by kernel_rfl
theorem T.el61 : elT Tryd.prog 61 = none := by kernel_rfl
theorem T.fu61 : funcT Tryd.prog 61 = true := by kernel_rfl
theorem T.sz62 : szT Tryd.prog 62 = some 1 := by kernel_rfl
theorem T.by62 : byT Tryd.prog 62 = some 8 := by kernel_rfl
theorem T.ag62 : aggT Tryd.prog 62 = some false := by kernel_rfl
theorem T.ze62 : zeroT Tryd.prog 62 = some [.nilF] := by kernel_rfl
theorem T.el62 : elT Tryd.prog 62 = none := by kernel_rfl
theorem T.fu62 : funcT Tryd.prog 62 = true := by kernel_rfl
theorem T.sz63 : szT Tryd.prog 63 = some 1 := by kernel_rfl
theorem T.by63 : byT Tryd.prog 63 = some 8 := by kernel_rfl
theorem T.ag63 : aggT Tryd.prog 63 = some false := by kernel_rfl
theorem T.ze63 : zeroT Tryd.prog 63 = some [.nilF] := by kernel_rfl
theorem T.el63 : elT Tryd.prog 63 = none := by kernel_rfl
theorem T.fu63 : funcT Tryd.prog 63 = true := by kernel_rfl
theorem T.sz64 : szT Tryd.prog 64 = some 1 := by kernel_rfl
theorem T.by64 : byT Tryd.prog 64 = some 8 := by kernel_rfl
theorem T.ag64 : aggT Tryd.prog 64 = some false := by kernel_rfl
theorem T.ze64 : zeroT Tryd.prog 64 = some [.nilF] := by kernel_rfl
theorem T.el64 : elT Tryd.prog 64 = none := by kernel_rfl
theorem T.fu64 : funcT Tryd.prog 64 = true := by kernel_rfl
theorem T.sz65 : szT Tryd.prog 65 = some 2 := by kernel_rfl
theorem T.by65 : byT Tryd.prog 65 = some 16 := by kernel_rfl
theorem T.ag65 : aggT Tryd.prog 65 = some true := by kernel_rfl
theorem T.ze65 : zeroT Tryd.prog 65 = some [(.int .i64 0), (.int .i64 0)] := by kernel_rfl
theorem T.el65 : elT Tryd.prog 65 = none := by kernel_rfl
theorem T.fl65_0 : fldT Tryd.prog 65 0 = some (0, 3) := by kernel_rfl
theorem T.fl65_1 : fldT Tryd.prog 65 1 = some (1, 3) := by kernel_rfl
theorem T.pl65 : plT Tryd.prog 65 = some (some [(0, 1), (1, 1)]) := by kernel_rfl
theorem T.fi65 : flatI Tryd.prog 65 = true := by kernel_rfl
theorem T.fn65 : flatN Tryd.prog 65 = 2 := by kernel_rfl
theorem T.sz66 : szT Tryd.prog 66 = some 2 := by kernel_rfl
theorem T.by66 : byT Tryd.prog 66 = some 16 := by kernel_rfl
theorem T.ag66 : aggT Tryd.prog 66 = some true := by kernel_rfl
theorem T.ze66 : zeroT Tryd.prog 66 = some [(.int .i64 0), (.int .i64 0)] := by kernel_rfl
theorem T.el66 : elT Tryd.prog 66 = none := by kernel_rfl
theorem T.fl66_0 : fldT Tryd.prog 66 0 = some (0, 3) := by kernel_rfl
theorem T.fl66_1 : fldT Tryd.prog 66 1 = some (1, 3) := by kernel_rfl
theorem T.pl66 : plT Tryd.prog 66 = some (some [(0, 1), (1, 1)]) := by kernel_rfl
theorem T.fi66 : flatI Tryd.prog 66 = true := by kernel_rfl
theorem T.fn66 : flatN Tryd.prog 66 = 2 := by kernel_rfl
theorem T.sz67 : szT Tryd.prog 67 = some 4 := by kernel_rfl
theorem T.by67 : byT Tryd.prog 67 = some 32 := by kernel_rfl
theorem T.ag67 : aggT Tryd.prog 67 = some true := by kernel_rfl
theorem T.ze67 : zeroT Tryd.prog 67 = some [(.int .i64 0), (.int .i64 0), (.int .i64 0), (.int .i64 0)] := by kernel_rfl
theorem T.el67 : elT Tryd.prog 67 = none := by kernel_rfl
theorem T.fl67_0 : fldT Tryd.prog 67 0 = some (0, 3) := by kernel_rfl
theorem T.fl67_1 : fldT Tryd.prog 67 1 = some (1, 3) := by kernel_rfl
theorem T.fl67_2 : fldT Tryd.prog 67 2 = some (2, 3) := by kernel_rfl
theorem T.fl67_3 : fldT Tryd.prog 67 3 = some (3, 3) := by kernel_rfl
theorem T.pl67 : plT Tryd.prog 67 = some (some [(0, 1), (1, 1), (2, 1), (3, 1)]) := by kernel_rfl
theorem T.fi67 : flatI Tryd.prog 67 = true := by kernel_rfl
theorem T.fn67 : flatN Tryd.prog 67 = 4 := by kernel_rfl
theorem T.sz68 : szT Tryd.prog 68 = some 4 := by kernel_rfl
theorem T.by68 : byT Tryd.prog 68 = some 32 := by kernel_rfl
theorem T.ag68 : aggT Tryd.prog 68 = some true := by kernel_rfl
theorem T.ze68 : zeroT Tryd.prog 68 = some [(.int .i64 0), (.int .i64 0), (.int .i64 0), (.int .i64 0)] := by kernel_rfl
theorem T.el68 : elT Tryd.prog 68 = none := by kernel_rfl
theorem T.fl68_0 : fldT Tryd.prog 68 0 = some (0, 3) := by kernel_rfl
theorem T.fl68_1 : fldT Tryd.prog 68 1 = some (1, 3) := by kernel_rfl
theorem T.fl68_2 : fldT Tryd.prog 68 2 = some (2, 3) := by kernel_rfl
theorem T.fl68_3 : fldT Tryd.prog 68 3 = some (3, 3) := by kernel_rfl
theorem T.pl68 : plT Tryd.prog 68 = some (some [(0, 1), (1, 1), (2, 1), (3, 1)]) := by kernel_rfl
theorem T.fi68 : flatI Tryd.prog 68 = true := by kernel_rfl
theorem T.fn68 : flatN Tryd.prog 68 = 4 := by kernel_rfl
theorem T.sz69 : szT Tryd.prog 69 = some 1 := by kernel_rfl
theorem T.by69 : byT Tryd.prog 69 = some 8 := by kernel_rfl
theorem T.ag69 : aggT Tryd.prog 69 = some false := by kernel_rfl
theorem T.ze69 : zeroT Tryd.prog 69 = some [.nilF] := by kernel_rfl
theorem T.el69 : elT Tryd.prog 69 = none := by kernel_rfl
theorem T.fu69 : funcT Tryd.prog 69 = true := by kernel_rfl
theorem T.sz70 : szT Tryd.prog 70 = some 1 := by kernel_rfl
theorem T.by70 : byT Tryd.prog 70 = some 8 := by kernel_rfl
theorem T.ag70 : aggT Tryd.prog 70 = some false := by kernel_rfl
theorem T.ze70 : zeroT Tryd.prog 70 = some [.nilF] := by kernel_rfl
theorem T.el70 : elT Tryd.prog 70 = none := by kernel_rfl
theorem T.fu70 : funcT Tryd.prog 70 = true := by kernel_rfl
theorem T.sz71 : szT Tryd.prog 71 = some 1 := by kernel_rfl
theorem T.by71 : byT Tryd.prog 71 = some 8 := by kernel_rfl
theorem T.ag71 : aggT Tryd.prog 71 = some false := by kernel_rfl
theorem T.ze71 : zeroT Tryd.prog 71 = some [.nilF] := by kernel_rfl
theorem T.el71 : elT Tryd.prog 71 = none := by kernel_rfl
theorem T.fu71 : funcT Tryd.prog 71 = true := by kernel_rfl
theorem T.sz72 : szT Tryd.prog 72 = some 1 := by kernel_rfl
theorem T.by72 : byT Tryd.prog 72 = some 8 := by kernel_rfl
theorem T.ag72 : aggT Tryd.prog 72 = some false := by kernel_rfl
theorem T.ze72 : zeroT Tryd.prog 72 = some [.nilF] := by kernel_rfl
theorem T.el72 : elT Tryd.prog 72 = none := by kernel_rfl
theorem T.fu72 : funcT Tryd.prog 72 = true := by kernel_rfl
theorem T.sz73 : szT Tryd.prog 73 = some 1 := by kernel_rfl
theorem T.by73 : byT Tryd.prog 73 = some 8 := by kernel_rfl
theorem T.ag73 : aggT Tryd.prog 73 = some false := by kernel_rfl
theorem T.ze73 : zeroT Tryd.prog 73 = some [.nilF] := by kernel_rfl
theorem T.el73 : elT Tryd.prog 73 = none := by kernel_rfl
theorem T.fu73 : funcT Tryd.prog 73 = true := by kernel_rfl
theorem T.sz74 : szT Tryd.prog 74 = some 1 := by kernel_rfl
theorem T.by74 : byT Tryd.prog 74 = some 8 := by kernel_rfl
theorem T.ag74 : aggT Tryd.prog 74 = some false := by kernel_rfl
theorem T.ze74 : zeroT Tryd.prog 74 = some [.nilF] := by kernel_rfl
theorem T.el74 : elT Tryd.prog 74 = none := by kernel_rfl
theorem T.fu74 : funcT Tryd.prog 74 = true := by kernel_rfl
theorem T.sz75 : szT Tryd.prog 75 = some 1 := by kernel_rfl
theorem T.by75 : byT Tryd.prog 75 = some 8 := by kernel_rfl
theorem T.ag75 : aggT Tryd.prog 75 = some false := by kernel_rfl
theorem T.ze75 : zeroT Tryd.prog 75 = some [.nilF] := by kernel_rfl
theorem T.el75 : elT Tryd.prog 75 = none := by kernel_rfl
theorem T.fu75 : funcT Tryd.prog 75 = true := by kernel_rfl
theorem T.sz76 : szT Tryd.prog 76 = some 1 := by kernel_rfl
theorem T.by76 : byT Tryd.prog 76 = some 8 := by kernel_rfl
theorem T.ag76 : aggT Tryd.prog 76 = some false := by kernel_rfl
theorem T.ze76 : zeroT Tryd.prog 76 = some [.nilF] := by kernel_rfl
theorem T.el76 : elT Tryd.prog 76 = none := by kernel_rfl
theorem T.fu76 : funcT Tryd.prog 76 = true := by kernel_rfl
theorem T.sz77 : szT Tryd.prog 77 = some 1 := by kernel_rfl
theorem T.by77 : byT Tryd.prog 77 = some 8 := by kernel_rfl
theorem T.ag77 : aggT Tryd.prog 77 = some false := by kernel_rfl
theorem T.ze77 : zeroT Tryd.prog 77 = some [.nilP] := by kernel_rfl
theorem T.el77 : elT Tryd.prog 77 = none := by kernel_rfl
theorem T.sz79 : szT Tryd.prog 79 = some 1 := by kernel_rfl
theorem T.by79 : byT Tryd.prog 79 = some 8 := by kernel_rfl
theorem T.ag79 : aggT Tryd.prog 79 = some false := by kernel_rfl
theorem T.ze79 : zeroT Tryd.prog 79 = some [.nilF] := by kernel_rfl
theorem T.el79 : elT Tryd.prog 79 = none := by kernel_rfl
theorem T.fu79 : funcT Tryd.prog 79 = true := by kernel_rfl
theorem T.sz80 : szT Tryd.prog 80 = some 1 := by kernel_rfl
theorem T.by80 : byT Tryd.prog 80 = some 8 := by kernel_rfl
theorem T.ag80 : aggT Tryd.prog 80 = some false := by kernel_rfl
theorem T.ze80 : zeroT Tryd.prog 80 = some [.nilF] := by kernel_rfl
theorem T.el80 : elT Tryd.prog 80 = none := by kernel_rfl
theorem T.fu80 : funcT Tryd.prog 80 = true := by kernel_rfl
theorem T.sz81 : szT Tryd.prog 81 = some 1 := by kernel_rfl
theorem T.by81 : byT Tryd.prog 81 = some 8 := by kernel_rfl
theorem T.ag81 : aggT Tryd.prog 81 = some false := by kernel_rfl
theorem T.ze81 : zeroT Tryd.prog 81 = some [.nilF] := by kernel_rfl
theorem T.el81 : elT Tryd.prog 81 = none := by kernel_rfl
theorem T.fu81 : funcT Tryd.prog 81 = true := by kernel_rfl
theorem T.sz82 : szT Tryd.prog 82 = some 1 := by kernel_rfl
theorem T.by82 : byT Tryd.prog 82 = some 8 := by kernel_rfl
theorem T.ag82 : aggT Tryd.prog 82 = some false := by kernel_rfl
theorem T.ze82 : zeroT Tryd.prog 82 = some [.nilF] := by kernel_rfl
theorem T.el82 : elT Tryd.prog 82 = none := by kernel_rfl
theorem T.fu82 : funcT Tryd.prog 82 = true := by kernel_rfl
theorem T.sz83 : szT Tryd.prog 83 = some 1 := by kernel_rfl
theorem T.by83 : byT Tryd.prog 83 = some 8 := by kernel_rfl
theorem T.ag83 : aggT Tryd.prog 83 = some false := by kernel_rfl
theorem T.ze83 : zeroT Tryd.prog 83 = some [.nilF] := by kernel_rfl
theorem T.el83 : elT Tryd.prog 83 = none := by kernel_rfl
theorem T.fu83 : funcT Tryd.prog 83 = true := by kernel_rfl
theorem T.sz85 : szT Tryd.prog 85 = some 1 := by kernel_rfl
theorem T.by85 : byT Tryd.prog 85 = some 8 := by kernel_rfl
theorem T.ag85 : aggT Tryd.prog 85 = some false := by kernel_rfl
theorem T.ze85 : zeroT Tryd.prog 85 = some [.nilF] := by kernel_rfl
theorem T.el85 : elT Tryd.prog 85 = none := by kernel_rfl
theorem T.fu85 : funcT Tryd.prog 85 = true := by kernel_rfl
theorem T.ik86 : ikT Tryd.prog 86 = some .u64 := by kernel_rfl
theorem T.sz86 : szT Tryd.prog 86 = some 1 := by kernel_rfl
theorem T.by86 : byT Tryd.prog 86 = some 8 := by kernel_rfl
theorem T.ag86 : aggT Tryd.prog 86 = some false := by kernel_rfl
theorem T.ze86 : zeroT Tryd.prog 86 = some [(.int .u64 0)] := by kernel_rfl
theorem T.el86 : elT Tryd.prog 86 = none := by kernel_rfl
theorem T.bo86 : boolT Tryd.prog 86 = false := by kernel_rfl
theorem T.ik87 : ikT Tryd.prog 87 = some .u64 := by kernel_rfl
theorem T.sz87 : szT Tryd.prog 87 = some 1 := by kernel_rfl
theorem T.by87 : byT Tryd.prog 87 = some 8 := by kernel_rfl
theorem T.ag87 : aggT Tryd.prog 87 = some false := by kernel_rfl
theorem T.ze87 : zeroT Tryd.prog 87 = some [(.int .u64 0)] := by kernel_rfl
theorem T.el87 : elT Tryd.prog 87 = none := by kernel_rfl
theorem T.bo87 : boolT Tryd.prog 87 = false := by kernel_rfl
theorem T.sz88 : szT Tryd.prog 88 = some 3 := by kernel_rfl
theorem T.by88 : byT Tryd.prog 88 = some 24 := by kernel_rfl
theorem T.ag88 : aggT Tryd.prog 88 = some true := by kernel_rfl
theorem T.ze88 : zeroT Tryd.prog 88 = some [(.int .i64 0), (.int .i64 0), (.int .u64 0)] := by kernel_rfl
theorem T.el88 : elT Tryd.prog 88 = none := by kernel_rfl
theorem T.fl88_0 : fldT Tryd.prog 88 0 = some (0, 3) := by kernel_rfl
theorem T.fl88_1 : fldT Tryd.prog 88 1 = some (1, 3) := by kernel_rfl
theorem T.fl88_2 : fldT Tryd.prog 88 2 = some (2, 87) := by kernel_rfl
theorem T.pl88 : plT Tryd.prog 88 = some (some [(0, 1), (1, 1), (2, 1)]) := by kernel_rfl
theorem T.sz89 : szT Tryd.prog 89 = some 3 := by kernel_rfl
theorem T.by89 : byT Tryd.prog 89 = some 24 := by kernel_rfl
theorem T.ag89 : aggT Tryd.prog 89 = some true := by kernel_rfl
theorem T.ze89 : zeroT Tryd.prog 89 = some [(.int .i64 0), (.int .i64 0), (.int .u64 0)] := by kernel_rfl
theorem T.el89 : elT Tryd.prog 89 = none := by kernel_rfl
theorem T.fl89_0 : fldT Tryd.prog 89 0 = some (0, 3) := by kernel_rfl
theorem T.fl89_1 : fldT Tryd.prog 89 1 = some (1, 3) := by kernel_rfl
theorem T.fl89_2 : fldT Tryd.prog 89 2 = some (2, 87) := by kernel_rfl
theorem T.pl89 : plT Tryd.prog 89 = some (some [(0, 1), (1, 1), (2, 1)]) := by kernel_rfl
theorem T.sz90 : szT Tryd.prog 90 = some 1 := by kernel_rfl
theorem T.by90 : byT Tryd.prog 90 = some 24 := by kernel_rfl
theorem T.ag90 : aggT Tryd.prog 90 = some false := by kernel_rfl
theorem T.ze90 : zeroT Tryd.prog 90 = some [.nilS] := by kernel_rfl
theorem T.el90 : elT Tryd.prog 90 = some (89, 3) := by kernel_rfl
theorem T.sz91 : szT Tryd.prog 91 = some 1 := by kernel_rfl
theorem T.by91 : byT Tryd.prog 91 = some 8 := by kernel_rfl
theorem T.ag91 : aggT Tryd.prog 91 = some false := by kernel_rfl
theorem T.ze91 : zeroT Tryd.prog 91 = some [.any] := by kernel_rfl
theorem T.el91 : elT Tryd.prog 91 = none := by kernel_rfl
theorem T.mt91 : mapTy Tryd.prog 91 = some .u64 := by kernel_rfl
theorem T.sz92 : szT Tryd.prog 92 = some 8 := by kernel_rfl
theorem T.by92 : byT Tryd.prog 92 = some 160 := by kernel_rfl
theorem T.ag92 : aggT Tryd.prog 92 = some true := by kernel_rfl
theorem T.ze92 : zeroT Tryd.prog 92 = some [.nilS, .nilS, .nilS, .nilS, .nilS, (.int .i64 0), .nilS, .any] := by kernel_rfl
theorem T.el92 : elT Tryd.prog 92 = none := by kernel_rfl
theorem T.fl92_0 : fldT Tryd.prog 92 0 = some (0, 28) := by kernel_rfl
theorem T.fl92_1 : fldT Tryd.prog 92 1 = some (6, 90) := by kernel_rfl
theorem T.fl92_2 : fldT Tryd.prog 92 2 = some (7, 91) := by kernel_rfl
theorem T.pl92 : plT Tryd.prog 92 = some (some [(0, 6), (6, 1), (7, 1)]) := by kernel_rfl
theorem T.sz93 : szT Tryd.prog 93 = some 8 := by kernel_rfl
theorem T.by93 : byT Tryd.prog 93 = some 160 := by kernel_rfl
theorem T.ag93 : aggT Tryd.prog 93 = some true := by kernel_rfl
theorem T.ze93 : zeroT Tryd.prog 93 = some [.nilS, .nilS, .nilS, .nilS, .nilS, (.int .i64 0), .nilS, .any] := by kernel_rfl
theorem T.el93 : elT Tryd.prog 93 = none := by kernel_rfl
theorem T.fl93_0 : fldT Tryd.prog 93 0 = some (0, 28) := by kernel_rfl
theorem T.fl93_1 : fldT Tryd.prog 93 1 = some (6, 90) := by kernel_rfl
theorem T.fl93_2 : fldT Tryd.prog 93 2 = some (7, 91) := by kernel_rfl
theorem T.pl93 : plT Tryd.prog 93 = some (some [(0, 6), (6, 1), (7, 1)]) := by kernel_rfl
theorem T.sz94 : szT Tryd.prog 94 = some 1 := by kernel_rfl
theorem T.by94 : byT Tryd.prog 94 = some 8 := by kernel_rfl
theorem T.ag94 : aggT Tryd.prog 94 = some false := by kernel_rfl
theorem T.ze94 : zeroT Tryd.prog 94 = some [.nilF] := by kernel_rfl
theorem T.el94 : elT Tryd.prog 94 = none := by kernel_rfl
theorem T.fu94 : funcT Tryd.prog 94 = true := by kernel_rfl
theorem T.sz95 : szT Tryd.prog 95 = some 1 := by kernel_rfl
theorem T.by95 : byT Tryd.prog 95 = some 8 := by kernel_rfl
theorem T.ag95 : aggT Tryd.prog 95 = some false := by kernel_rfl
theorem T.ze95 : zeroT Tryd.prog 95 = some [.nilF] := by kernel_rfl
theorem T.el95 : elT Tryd.prog 95 = none := by kernel_rfl
theorem T.fu95 : funcT Tryd.prog 95 = true := by kernel_rfl
theorem T.sz96 : szT Tryd.prog 96 = some 1 := by kernel_rfl
theorem T.by96 : byT Tryd.prog 96 = some 8 := by kernel_rfl
theorem T.ag96 : aggT Tryd.prog 96 = some false := by kernel_rfl
theorem T.ze96 : zeroT Tryd.prog 96 = some [.nilF] := by kernel_rfl
theorem T.el96 : elT Tryd.prog 96 = none := by kernel_rfl
theorem T.fu96 : funcT Tryd.prog 96 = true := by kernel_rfl
theorem T.sz97 : szT Tryd.prog 97 = some 1 := by kernel_rfl
theorem T.by97 : byT Tryd.prog 97 = some 8 := by kernel_rfl
theorem T.ag97 : aggT Tryd.prog 97 = some false := by kernel_rfl
theorem T.ze97 : zeroT Tryd.prog 97 = some [.nilF] := by kernel_rfl
theorem T.el97 : elT Tryd.prog 97 = none := by kernel_rfl
theorem T.fu97 : funcT Tryd.prog 97 = true := by kernel_rfl
theorem T.sz98 : szT Tryd.prog 98 = some 2 := by kernel_rfl
theorem T.by98 : byT Tryd.prog 98 = some 16 := by kernel_rfl
theorem T.ag98 : aggT Tryd.prog 98 = some true := by kernel_rfl
theorem T.ze98 : zeroT Tryd.prog 98 = some [(.int .i64 0), (.int .i64 0)] := by kernel_rfl
theorem T.el98 : elT Tryd.prog 98 = none := by kernel_rfl
theorem T.fl98_0 : fldT Tryd.prog 98 0 = some (0, 3) := by kernel_rfl
theorem T.fl98_1 : fldT Tryd.prog 98 1 = some (1, 3) := by kernel_rfl
theorem T.pl98 : plT Tryd.prog 98 = some (some [(0, 1), (1, 1)]) := by kernel_rfl
theorem T.fi98 : flatI Tryd.prog 98 = true := by kernel_rfl
theorem T.fn98 : flatN Tryd.prog 98 = 2 := by kernel_rfl
theorem T.sz99 : szT Tryd.prog 99 = some 2 := by kernel_rfl
theorem T.by99 : byT Tryd.prog 99 = some 16 := by kernel_rfl
theorem T.ag99 : aggT Tryd.prog 99 = some true := by kernel_rfl
theorem T.ze99 : zeroT Tryd.prog 99 = some [(.int .i64 0), (.int .i64 0)] := by kernel_rfl
theorem T.el99 : elT Tryd.prog 99 = none := by kernel_rfl
theorem T.fl99_0 : fldT Tryd.prog 99 0 = some (0, 3) := by kernel_rfl
theorem T.fl99_1 : fldT Tryd.prog 99 1 = some (1, 3) := by kernel_rfl
theorem T.pl99 : plT Tryd.prog 99 = some (some [(0, 1), (1, 1)]) := by kernel_rfl
theorem T.fi99 : flatI Tryd.prog 99 = true := by kernel_rfl
theorem T.fn99 : flatN Tryd.prog 99 = 2 := by kernel_rfl
theorem T.sz101 : szT Tryd.prog 101 = some 1 := by kernel_rfl
theorem T.by101 : byT Tryd.prog 101 = some 8 := by kernel_rfl
theorem T.ag101 : aggT Tryd.prog 101 = some false := by kernel_rfl
theorem T.ze101 : zeroT Tryd.prog 101 = some [.nilF] := by kernel_rfl
theorem T.el101 : elT Tryd.prog 101 = none := by kernel_rfl
theorem T.fu101 : funcT Tryd.prog 101 = true := by kernel_rfl
theorem T.sz102 : szT Tryd.prog 102 = some 1 := by kernel_rfl
theorem T.by102 : byT Tryd.prog 102 = some 8 := by kernel_rfl
theorem T.ag102 : aggT Tryd.prog 102 = some false := by kernel_rfl
theorem T.ze102 : zeroT Tryd.prog 102 = some [.nilF] := by kernel_rfl
theorem T.el102 : elT Tryd.prog 102 = none := by kernel_rfl
theorem T.fu102 : funcT Tryd.prog 102 = true := by kernel_rfl
theorem T.sz103 : szT Tryd.prog 103 = some 1 := by kernel_rfl
theorem T.by103 : byT Tryd.prog 103 = some 24 := by kernel_rfl
theorem T.ag103 : aggT Tryd.prog 103 = some false := by kernel_rfl
theorem T.ze103 : zeroT Tryd.prog 103 = some [.nilS] := by kernel_rfl
theorem T.el103 : elT Tryd.prog 103 = some (26, 1) := by kernel_rfl
theorem T.sz104 : szT Tryd.prog 104 = some 1 := by kernel_rfl
theorem T.by104 : byT Tryd.prog 104 = some 8 := by kernel_rfl
theorem T.ag104 : aggT Tryd.prog 104 = some false := by kernel_rfl
theorem T.ze104 : zeroT Tryd.prog 104 = some [.nilF] := by kernel_rfl
theorem T.el104 : elT Tryd.prog 104 = none := by kernel_rfl
theorem T.fu104 : funcT Tryd.prog 104 = true := by kernel_rfl
theorem T.sz105 : szT Tryd.prog 105 = some 1 := by kernel_rfl
theorem T.by105 : byT Tryd.prog 105 = some 8 := by kernel_rfl
theorem T.ag105 : aggT Tryd.prog 105 = some false := by kernel_rfl
theorem T.ze105 : zeroT Tryd.prog 105 = some [.nilF] := by kernel_rfl
theorem T.el105 : elT Tryd.prog 105 = none := by kernel_rfl
theorem T.fu105 : funcT Tryd.prog 105 = true := by kernel_rfl
theorem T.sz106 : szT Tryd.prog 106 = some 1 := by kernel_rfl
theorem T.by106 : byT Tryd.prog 106 = some 8 := by kernel_rfl
theorem T.ag106 : aggT Tryd.prog 106 = some false := by kernel_rfl
theorem T.ze106 : zeroT Tryd.prog 106 = some [.nilF] := by kernel_rfl
theorem T.el106 : elT Tryd.prog 106 = none := by kernel_rfl
theorem T.fu106 : funcT Tryd.prog 106 = true := by kernel_rfl
theorem T.sz107 : szT Tryd.prog 107 = some 1 := by kernel_rfl
theorem T.by107 : byT Tryd.prog 107 = some 8 := by kernel_rfl
theorem T.ag107 : aggT Tryd.prog 107 = some false := by kernel_rfl
theorem T.ze107 : zeroT Tryd.prog 107 = some [.nilF] := by kernel_rfl
theorem T.el107 : elT Tryd.prog 107 = none := by kernel_rfl
theorem T.fu107 : funcT Tryd.prog 107 = true := by kernel_rfl
theorem T.sz108 : szT Tryd.prog 108 = some 1 := by kernel_rfl
theorem T.by108 : byT Tryd.prog 108 = some 8 := by kernel_rfl
theorem T.ag108 : aggT Tryd.prog 108 = some false := by kernel_rfl
theorem T.ze108 : zeroT Tryd.prog 108 = some [.nilF] := by kernel_rfl
theorem T.el108 : elT Tryd.prog 108 = none := by kernel_rfl
theorem T.fu108 : funcT Tryd.prog 108 = true := by kernel_rfl
theorem T.sz109 : szT Tryd.prog 109 = some 1 := by kernel_rfl
theorem T.by109 : byT Tryd.prog 109 = some 8 := by kernel_rfl
theorem T.ag109 : aggT Tryd.prog 109 = some false := by kernel_rfl
theorem T.ze109 : zeroT Tryd.prog 109 = some [.nilF] := by kernel_rfl
theorem T.el109 : elT Tryd.prog 109 = none := by kernel_rfl
theorem T.fu109 : funcT Tryd.prog 109 = true := by kernel_rfl
theorem T.sz110 : szT Tryd.prog 110 = some 2 := by kernel_rfl
theorem T.by110 : byT Tryd.prog 110 = some 16 := by kernel_rfl
theorem T.ag110 : aggT Tryd.prog 110 = some true := by kernel_rfl
theorem T.ze110 : zeroT Tryd.prog 110 = some [(.int .i64 0), (.int .i64 0)] := by kernel_rfl
theorem T.el110 : elT Tryd.prog 110 = none := by kernel_rfl
theorem T.ar110 : arT Tryd.prog 110 = some (2, 3, 1) := by kernel_rfl
theorem T.pl110 : plT Tryd.prog 110 = some none := by kernel_rfl
theorem T.sz112 : szT Tryd.prog 112 = some 1 := by kernel_rfl
theorem T.by112 : byT Tryd.prog 112 = some 8 := by kernel_rfl
theorem T.ag112 : aggT Tryd.prog 112 = some false := by kernel_rfl
theorem T.ze112 : zeroT Tryd.prog 112 = some [.nilF] := by kernel_rfl
theorem T.el112 : elT Tryd.prog 112 = none := by kernel_rfl
theorem T.fu112 : funcT Tryd.prog 112 = true := by kernel_rfl
theorem T.sz113 : szT Tryd.prog 113 = some 1 := by kernel_rfl
theorem T.by113 : byT Tryd.prog 113 = some 8 := by kernel_rfl
theorem T.ag113 : aggT Tryd.prog 113 = some false := by kernel_rfl
theorem T.ze113 : zeroT Tryd.prog 113 = some [.nilF] := by kernel_rfl
theorem T.el113 : elT Tryd.prog 113 = none := by kernel_rfl
theorem T.fu113 : funcT Tryd.prog 113 = true := by kernel_rfl
theorem T.sz114 : szT Tryd.prog 114 = some 1 := by kernel_rfl
theorem T.by114 : byT Tryd.prog 114 = some 8 := by kernel_rfl
theorem T.ag114 : aggT Tryd.prog 114 = some false := by kernel_rfl
theorem T.ze114 : zeroT Tryd.prog 114 = some [.nilF] := by kernel_rfl
theorem T.el114 : elT Tryd.prog 114 = none := by kernel_rfl
theorem T.fu114 : funcT Tryd.prog 114 = true := by kernel_rfl
theorem T.sz115 : szT Tryd.prog 115 = some 1 := by kernel_rfl
theorem T.by115 : byT Tryd.prog 115 = some 8 := by kernel_rfl
theorem T.ag115 : aggT Tryd.prog 115 = some false := by kernel_rfl
theorem T.ze115 : zeroT Tryd.prog 115 = some [.nilF] := by kernel_rfl
theorem T.el115 : elT Tryd.prog 115 = none := by kernel_rfl
theorem T.fu115 : funcT Tryd.prog 115 = true := by kernel_rfl
theorem T.sz116 : szT Tryd.prog 116 = some 1 := by kernel_rfl
theorem T.by116 : byT Tryd.prog 116 = some 8 := by kernel_rfl
theorem T.ag116 : aggT Tryd.prog 116 = some false := by kernel_rfl
theorem T.ze116 : zeroT Tryd.prog 116 = some [.nilF] := by kernel_rfl
theorem T.el116 : elT Tryd.prog 116 = none := by kernel_rfl
theorem T.fu116 : funcT Tryd.prog 116 = true := by kernel_rfl
theorem T.sz117 : szT Tryd.prog 117 = some 1 := by kernel_rfl
theorem T.by117 : byT Tryd.prog 117 = some 8 := by kernel_rfl
theorem T.ag117 : aggT Tryd.prog 117 = some false := by kernel_rfl
theorem T.ze117 : zeroT Tryd.prog 117 = some [.nilF] := by kernel_rfl
theorem T.el117 : elT Tryd.prog 117 = none := by kernel_rfl
theorem T.fu117 : funcT Tryd.prog 117 = true := by kernel_rfl
theorem T.sz118 : szT Tryd.prog 118 = some 1 := by kernel_rfl
theorem T.by118 : byT Tryd.prog 118 = some 8 := by kernel_rfl
theorem T.ag118 : aggT Tryd.prog 118 = some false := by kernel_rfl
theorem T.ze118 : zeroT Tryd.prog 118 = some [.nilF] := by kernel_rfl
theorem T.el118 : elT Tryd.prog 118 = none := by kernel_rfl
theorem T.fu118 : funcT Tryd.prog 118 = true := by kernel_rfl
theorem T.sz119 : szT Tryd.prog 119 = some 1 := by kernel_rfl
theorem T.by119 : byT Tryd.prog 119 = some 8 := by kernel_rfl
theorem T.ag119 : aggT Tryd.prog 119 = some false := by kernel_rfl
theorem T.ze119 : zeroT Tryd.prog 119 = some [.nilF] := by kernel_rfl
theorem T.el119 : elT Tryd.prog 119 = none := by kernel_rfl
theorem T.fu119 : funcT Tryd.prog 119 = true := by kernel_rfl
theorem T.sz120 : szT Tryd.prog 120 = some 1 := by kernel_rfl
theorem T.by120 : byT Tryd.prog 120 = some 8 := by kernel_rfl
theorem T.ag120 : aggT Tryd.prog 120 = some false := by kernel_rfl
theorem T.ze120 : zeroT Tryd.prog 120 = some [.nilF] := by kernel_rfl
theorem T.el120 : elT Tryd.prog 120 = none := by kernel_rfl
theorem T.fu120 : funcT Tryd.prog 120 = true := by kernel_rfl
theorem T.sz121 : szT Tryd.prog 121 = some 1 := by kernel_rfl
theorem T.by121 : byT Tryd.prog 121 = some 8 := by kernel_rfl
theorem T.ag121 : aggT Tryd.prog 121 = some false := by kernel_rfl
theorem T.ze121 : zeroT Tryd.prog 121 = some [.nilF] := by kernel_rfl
theorem T.el121 : elT Tryd.prog 121 = none := by kernel_rfl
theorem T.fu121 : funcT Tryd.prog 121 = true := by kernel_rfl
theorem T.sz122 : szT Tryd.prog 122 = some 1 := by kernel_rfl
theorem T.by122 : byT Tryd.prog 122 = some 8 := by kernel_rfl
theorem T.ag122 : aggT Tryd.prog 122 = some false := by kernel_rfl
theorem T.ze122 : zeroT Tryd.prog 122 = some [.nilF] := by kernel_rfl
theorem T.el122 : elT Tryd.prog 122 = none := by kernel_rfl
theorem T.fu122 : funcT Tryd.prog 122 = true := by kernel_rfl
theorem T.sz123 : szT Tryd.prog 123 = some 1 := by kernel_rfl
theorem T.by123 : byT Tryd.prog 123 = some 8 := by kernel_rfl
theorem T.ag123 : aggT Tryd.prog 123 = some false := by kernel_rfl
theorem T.ze123 : zeroT Tryd.prog 123 = some [.nilF] := by kernel_rfl
theorem T.el123 : elT Tryd.prog 123 = none := by kernel_rfl
theorem T.fu123 : funcT Tryd.prog 123 = true := by kernel_rfl
theorem T.sz124 : szT Tryd.prog 124 = some 1 := by kernel_rfl
theorem T.by124 : byT Tryd.prog 124 = some 8 := by kernel_rfl
theorem T.ag124 : aggT Tryd.prog 124 = some false := by kernel_rfl
theorem T.ze124 : zeroT Tryd.prog 124 = some [.nilF] := by kernel_rfl
theorem T.el124 : elT Tryd.prog 124 = none := by kernel_rfl
theorem T.fu124 : funcT Tryd.prog 124 = true := by kernel_rfl
theorem T.sz126 : szT Tryd.prog 126 = some 1 := by kernel_rfl
theorem T.by126 : byT Tryd.prog 126 = some 8 := by kernel_rfl
theorem T.ag126 : aggT Tryd.prog 126 = some false := by kernel_rfl
theorem T.ze126 : zeroT Tryd.prog 126 = some [.nilF] := by kernel_rfl
theorem T.el126 : elT Tryd.prog 126 = none := by kernel_rfl
theorem T.fu126 : funcT Tryd.prog 126 = true := by kernel_rfl
theorem T.ik127 : ikT Tryd.prog 127 = some .u64 := by kernel_rfl
theorem T.sz127 : szT Tryd.prog 127 = some 1 := by kernel_rfl
theorem T.by127 : byT Tryd.prog 127 = some 8 := by kernel_rfl
theorem T.ag127 : aggT Tryd.prog 127 = some false := by kernel_rfl
theorem T.ze127 : zeroT Tryd.prog 127 = some [(.int .u64 0)] := by kernel_rfl
theorem T.el127 : elT Tryd.prog 127 = none := by kernel_rfl
theorem T.bo127 : boolT Tryd.prog 127 = false := by kernel_rfl
theorem T.sz128 : szT Tryd.prog 128 = some 1 := by kernel_rfl
theorem T.by128 : byT Tryd.prog 128 = some 8 := by kernel_rfl
theorem T.ag128 : aggT Tryd.prog 128 = some false := by kernel_rfl
theorem T.ze128 : zeroT Tryd.prog 128 = some [.nilF] := by kernel_rfl
theorem T.el128 : elT Tryd.prog 128 = none := by kernel_rfl
theorem T.fu128 : funcT Tryd.prog 128 = true := by kernel_rfl
theorem T.sz129 : szT Tryd.prog 129 = some 1 := by kernel_rfl
theorem T.by129 : byT Tryd.prog 129 = some 8 := by kernel_rfl
theorem T.ag129 : aggT Tryd.prog 129 = some false := by kernel_rfl
theorem T.ze129 : zeroT Tryd.prog 129 = some [.nilP] := by kernel_rfl
theorem T.el129 : elT Tryd.prog 129 = none := by kernel_rfl
theorem T.sz130 : szT Tryd.prog 130 = some 1 := by kernel_rfl
theorem T.by130 : byT Tryd.prog 130 = some 8 := by kernel_rfl
theorem T.ag130 : aggT Tryd.prog 130 = some false := by kernel_rfl
theorem T.ze130 : zeroT Tryd.prog 130 = some [.nilF] := by kernel_rfl
theorem T.el130 : elT Tryd.prog 130 = none := by kernel_rfl
theorem T.fu130 : funcT Tryd.prog 130 = true := by kernel_rfl
theorem T.sz131 : szT Tryd.prog 131 = some 1 := by kernel_rfl
theorem T.by131 : byT Tryd.prog 131 = some 8 := by kernel_rfl
theorem T.ag131 : aggT Tryd.prog 131 = some false := by kernel_rfl
theorem T.ze131 : zeroT Tryd.prog 131 = some [.nilF] := by kernel_rfl
theorem T.el131 : elT Tryd.prog 131 = none := by kernel_rfl
theorem T.fu131 : funcT Tryd.prog 131 = true := by kernel_rfl
theorem T.sz132 : szT Tryd.prog 132 = some 1 := by kernel_rfl
theorem T.by132 : byT Tryd.prog 132 = some 8 := by kernel_rfl
theorem T.ag132 : aggT Tryd.prog 132 = some false := by kernel_rfl
theorem T.ze132 : zeroT Tryd.prog 132 = some [.nilF] := by kernel_rfl
theorem T.el132 : elT Tryd.prog 132 = none := by kernel_rfl
theorem T.fu132 : funcT Tryd.prog 132 = true := by kernel_rfl
theorem T.sz133 : szT Tryd.prog 133 = some 8 := by kernel_rfl
theorem T.by133 : byT Tryd.prog 133 = some 64 := by kernel_rfl
theorem T.ag133 : aggT Tryd.prog 133 = some true := by kernel_rfl
theorem T.ze133 : zeroT Tryd.prog 133 = some [(.int .i64 0), (.int .i64 0), (.int .i64 0), (.int .i64 0), (.int .i64 0), (.int .i64 0), (.int .i64 0), (.int .i64 0)] := by kernel_rfl
theorem T.el133 : elT Tryd.prog 133 = none := by kernel_rfl
theorem T.ar133 : arT Tryd.prog 133 = some (8, 3, 1) := by kernel_rfl
theorem T.pl133 : plT Tryd.prog 133 = some none := by kernel_rfl
theorem T.sz134 : szT Tryd.prog 134 = some 19 := by kernel_rfl
theorem T.by134 : byT Tryd.prog 134 = some 184 := by kernel_rfl
theorem T.ag134 : aggT Tryd.prog 134 = some true := by kernel_rfl
theorem T.ze134 : zeroT Tryd.prog 134 = some [.nilS, .nilS, (.int .i64 0), (.int .i64 0), (.int .i64 0), (.int .i64 0), (.int .i64 0), (.int .i64 0), (.int .i64 0), (.int .i64 0), (.int .i64 0), (.int .i64 0), (.int .i64 0), (.int .i64 0), (.int .i64 0), (.int .i64 0), (.int .i64 0), (.int .i64 0), (.int .i64 0)] := by kernel_rfl
theorem T.el134 : elT Tryd.prog 134 = none := by kernel_rfl
theorem T.fl134_0 : fldT Tryd.prog 134 0 = some (0, 25) := by kernel_rfl
theorem T.fl134_1 : fldT Tryd.prog 134 1 = some (2, 3) := by kernel_rfl
theorem T.fl134_2 : fldT Tryd.prog 134 2 = some (3, 133) := by kernel_rfl
theorem T.fl134_3 : fldT Tryd.prog 134 3 = some (11, 133) := by kernel_rfl
theorem T.pl134 : plT Tryd.prog 134 = some (some [(0, 2), (2, 1), (3, 8), (11, 8)]) := by kernel_rfl
theorem T.sz135 : szT Tryd.prog 135 = some 19 := by kernel_rfl
theorem T.by135 : byT Tryd.prog 135 = some 184 := by kernel_rfl
theorem T.ag135 : aggT Tryd.prog 135 = some true := by kernel_rfl
theorem T.ze135 : zeroT Tryd.prog 135 = some [.nilS, .nilS, (.int .i64 0), (.int .i64 0), (.int .i64 0), (.int .i64 0), (.int .i64 0), (.int .i64 0), (.int .i64 0), (.int .i64 0), (.int .i64 0), (.int .i64 0), (.int .i64 0), (.int .i64 0), (.int .i64 0), (.int .i64 0), (.int .i64 0), (.int .i64 0), (.int .i64 0)] := by kernel_rfl
theorem T.el135 : elT Tryd.prog 135 = none := by kernel_rfl
theorem T.fl135_0 : fldT Tryd.prog 135 0 = some (0, 25) := by kernel_rfl
theorem T.fl135_1 : fldT Tryd.prog 135 1 = some (2, 3) := by kernel_rfl
theorem T.fl135_2 : fldT Tryd.prog 135 2 = some (3, 133) := by kernel_rfl
theorem T.fl135_3 : fldT Tryd.prog 135 3 = some (11, 133) := by kernel_rfl
theorem T.pl135 : plT Tryd.prog 135 = some (some [(0, 2), (2, 1), (3, 8), (11, 8)]) := by kernel_rfl
theorem T.sz136 : szT Tryd.prog 136 = some 32 := by kernel_rfl
theorem T.by136 : byT Tryd.prog 136 = some 32 := by kernel_rfl
theorem T.ag136 : aggT Tryd.prog 136 = some true := by kernel_rfl
theorem T.ze136 : zeroT Tryd.prog 136 = some [(.int .u8 0), (.int .u8 0), (.int .u8 0), (.int .u8 0), (.int .u8 0), (.int .u8 0), (.int .u8 0), (.int .u8 0), (.int .u8 0), (.int .u8 0), (.int .u8 0), (.int .u8 0), (.int .u8 0), (.int .u8 0), (.int .u8 0), (.int .u8 0), (.int .u8 0), (.int .u8 0), (.int .u8 0), (.int .u8 0), (.int .u8 0), (.int .u8 0), (.int .u8 0), (.int .u8 0), (.int .u8 0), (.int .u8 0), (.int .u8 0), (.int .u8 0), (.int .u8 0), (.int .u8 0), (.int .u8 0), (.int .u8 0)] := by kernel_rfl
theorem T.el136 : elT Tryd.prog 136 = none := by kernel_rfl
theorem T.ar136 : arT Tryd.prog 136 = some (32, 5, 1) := by kernel_rfl
theorem T.pl136 : plT Tryd.prog 136 = some none := by kernel_rfl
theorem T.sz137 : szT Tryd.prog 137 = some 64 := by kernel_rfl
theorem T.by137 : byT Tryd.prog 137 = some 64 := by kernel_rfl
theorem T.ag137 : aggT Tryd.prog 137 = some true := by kernel_rfl
theorem T.ze137 : zeroT Tryd.prog 137 = some [(.int .u8 0), (.int .u8 0), (.int .u8 0), (.int .u8 0), (.int .u8 0), (.int .u8 0), (.int .u8 0), (.int .u8 0), (.int .u8 0), (.int .u8 0), (.int .u8 0), (.int .u8 0), (.int .u8 0), (.int .u8 0), (.int .u8 0), (.int .u8 0), (.int .u8 0), (.int .u8 0), (.int .u8 0), (.int .u8 0), (.int .u8 0), (.int .u8 0), (.int .u8 0), (.int .u8 0), (.int .u8 0), (.int .u8 0), (.int .u8 0), (.int .u8 0), (.int .u8 0), (.int .u8 0), (.int .u8 0), (.int .u8 0), (.int .u8 0), (.int .u8 0), (.int .u8 0), (.int .u8 0), (.int .u8 0), (.int .u8 0), (.int .u8 0), (.int .u8 0), (.int .u8 0), (.int .u8 0), (.int .u8 0), (.int .u8 0), (.int .u8 0), (.int .u8 0), (.int .u8 0), (.int .u8 0), (.int .u8 0), (.int .u8 0), (.int .u8 0), (.int .u8 0), (.int .u8 0), (.int .u8 0), (.int .u8 0), (.int .u8 0), (.int .u8 0), (.int .u8 0), (.int .u8 0), (.int .u8 0), (.int .u8 0), (.int .u8 0), (.int .u8 0), (.int .u8 0)] := by kernel_rfl
theorem T.el137 : elT Tryd.prog 137 = none := by kernel_rfl
theorem T.ar137 : arT Tryd.prog 137 = some (64, 5, 1) := by kernel_rfl
theorem T.pl137 : plT Tryd.prog 137 = some none := by kernel_rfl
theorem T.sz138 : szT Tryd.prog 138 = some 1 := by kernel_rfl
theorem T.by138 : byT Tryd.prog 138 = some 8 := by kernel_rfl
theorem T.ag138 : aggT Tryd.prog 138 = some false := by kernel_rfl
theorem T.ze138 : zeroT Tryd.prog 138 = some [.nilF] := by kernel_rfl
theorem T.el138 : elT Tryd.prog 138 = none := by kernel_rfl
theorem T.fu138 : funcT Tryd.prog 138 = true := by kernel_rfl
theorem T.sz139 : szT Tryd.prog 139 = some 4 := by kernel_rfl
theorem T.by139 : byT Tryd.prog 139 = some 40 := by kernel_rfl
theorem T.ag139 : aggT Tryd.prog 139 = some true := by kernel_rfl
theorem T.ze139 : zeroT Tryd.prog 139 = some [.nilP, .nilP, .nilP, .any] := by kernel_rfl
theorem T.el139 : elT Tryd.prog 139 = none := by kernel_rfl
theorem T.fl139_0 : fldT Tryd.prog 139 0 = some (0, 17) := by kernel_rfl
theorem T.fl139_1 : fldT Tryd.prog 139 1 = some (1, 17) := by kernel_rfl
theorem T.fl139_2 : fldT Tryd.prog 139 2 = some (2, 17) := by kernel_rfl
theorem T.fl139_3 : fldT Tryd.prog 139 3 = some (3, 9) := by kernel_rfl
theorem T.pl139 : plT Tryd.prog 139 = some (some [(0, 1), (1, 1), (2, 1), (3, 1)]) := by kernel_rfl
theorem T.sz140 : szT Tryd.prog 140 = some 4 := by kernel_rfl
theorem T.by140 : byT Tryd.prog 140 = some 40 := by kernel_rfl
theorem T.ag140 : aggT Tryd.prog 140 = some true := by kernel_rfl
theorem T.ze140 : zeroT Tryd.prog 140 = some [.nilP, .nilP, .nilP, .any] := by kernel_rfl
theorem T.el140 : elT Tryd.prog 140 = none := by kernel_rfl
theorem T.fl140_0 : fldT Tryd.prog 140 0 = some (0, 17) := by kernel_rfl
theorem T.fl140_1 : fldT Tryd.prog 140 1 = some (1, 17) := by kernel_rfl
theorem T.fl140_2 : fldT Tryd.prog 140 2 = some (2, 17) := by kernel_rfl
theorem T.fl140_3 : fldT Tryd.prog 140 3 = some (3, 9) := by kernel_rfl
theorem T.pl140 : plT Tryd.prog 140 = some (some [(0, 1), (1, 1), (2, 1), (3, 1)]) := by kernel_rfl
theorem T.sz141 : szT Tryd.prog 141 = some 0 := by kernel_rfl
theorem T.by141 : byT Tryd.prog 141 = some 0 := by kernel_rfl
theorem T.ag141 : aggT Tryd.prog 141 = some true := by kernel_rfl
theorem T.ze141 : zeroT Tryd.prog 141 = some [] := by kernel_rfl
theorem T.el141 : elT Tryd.prog 141 = none := by kernel_rfl
theorem T.ar141 : arT Tryd.prog 141 = some (0, 16, 1) := by kernel_rfl
theorem T.pl141 : plT Tryd.prog 141 = some none := by kernel_rfl
theorem T.sz142 : szT Tryd.prog 142 = some 0 := by kernel_rfl
theorem T.by142 : byT Tryd.prog 142 = some 0 := by kernel_rfl
theorem T.ag142 : aggT Tryd.prog 142 = some true := by kernel_rfl
theorem T.ze142 : zeroT Tryd.prog 142 = some [] := by kernel_rfl
theorem T.el142 : elT Tryd.prog 142 = none := by kernel_rfl
theorem T.pl142 : plT Tryd.prog 142 = some (some [(0, 0)]) := by kernel_rfl
theorem T.sz143 : szT Tryd.prog 143 = some 0 := by kernel_rfl
theorem T.by143 : byT Tryd.prog 143 = some 0 := by kernel_rfl
theorem T.ag143 : aggT Tryd.prog 143 = some true := by kernel_rfl
theorem T.ze143 : zeroT Tryd.prog 143 = some [] := by kernel_rfl
theorem T.el143 : elT Tryd.prog 143 = none := by kernel_rfl
theorem T.pl143 : plT Tryd.prog 143 = some (some [(0, 0)]) := by kernel_rfl
theorem T.sz144 : szT Tryd.prog 144 = some 1 := by kernel_rfl
theorem T.by144 : byT Tryd.prog 144 = some 8 := by kernel_rfl
theorem T.ag144 : aggT Tryd.prog 144 = some false := by kernel_rfl
theorem T.ze144 : zeroT Tryd.prog 144 = some [.nilF] := by kernel_rfl
theorem T.el144 : elT Tryd.prog 144 = none := by kernel_rfl
theorem T.fu144 : funcT Tryd.prog 144 = true := by kernel_rfl
theorem T.ik145 : ikT Tryd.prog 145 = some .u8 := by kernel_rfl
theorem T.sz145 : szT Tryd.prog 145 = some 1 := by kernel_rfl
theorem T.by145 : byT Tryd.prog 145 = some 1 := by kernel_rfl
theorem T.ag145 : aggT Tryd.prog 145 = some false := by kernel_rfl
theorem T.ze145 : zeroT Tryd.prog 145 = some [(.int .u8 0)] := by kernel_rfl
theorem T.el145 : elT Tryd.prog 145 = none := by kernel_rfl
theorem T.bo145 : boolT Tryd.prog 145 = false := by kernel_rfl
theorem T.ik146 : ikT Tryd.prog 146 = some .u8 := by kernel_rfl
theorem T.sz146 : szT Tryd.prog 146 = some 1 := by kernel_rfl
theorem T.by146 : byT Tryd.prog 146 = some 1 := by kernel_rfl
theorem T.ag146 : aggT Tryd.prog 146 = some false := by kernel_rfl
theorem T.ze146 : zeroT Tryd.prog 146 = some [(.int .u8 0)] := by kernel_rfl
theorem T.el146 : elT Tryd.prog 146 = none := by kernel_rfl
theorem T.bo146 : boolT Tryd.prog 146 = false := by kernel_rfl
theorem T.sz147 : szT Tryd.prog 147 = some 1 := by kernel_rfl
theorem T.by147 : byT Tryd.prog 147 = some 8 := by kernel_rfl
theorem T.ag147 : aggT Tryd.prog 147 = some false := by kernel_rfl
theorem T.ze147 : zeroT Tryd.prog 147 = some [.nilF] := by kernel_rfl
theorem T.el147 : elT Tryd.prog 147 = none := by kernel_rfl
theorem T.fu147 : funcT Tryd.prog 147 = true := by kernel_rfl
theorem T.sz148 : szT Tryd.prog 148 = some 1 := by kernel_rfl
theorem T.by148 : byT Tryd.prog 148 = some 8 := by kernel_rfl
theorem T.ag148 : aggT Tryd.prog 148 = some false := by kernel_rfl
theorem T.ze148 : zeroT Tryd.prog 148 = some [.nilP] := by kernel_rfl
theorem T.el148 : elT Tryd.prog 148 = none := by kernel_rfl
theorem T.sz151 : szT Tryd.prog 151 = some 11 := by kernel_rfl
theorem T.by151 : byT Tryd.prog 151 = some 48 := by kernel_rfl
theorem T.ag151 : aggT Tryd.prog 151 = some true := by kernel_rfl
theorem T.ze151 : zeroT Tryd.prog 151 = some [(.int .u64 0), (.int .u64 0), (.int .u32 0), (.int .u8 0), (.int .u8 0), (.int .u8 0), (.int .u8 0), .nilF, .nilP, (.int .i32 0), (.int .i32 0)] := by kernel_rfl
theorem T.el151 : elT Tryd.prog 151 = none := by kernel_rfl
theorem T.fl151_0 : fldT Tryd.prog 151 0 = some (0, 12) := by kernel_rfl
theorem T.fl151_1 : fldT Tryd.prog 151 1 = some (1, 12) := by kernel_rfl
theorem T.fl151_2 : fldT Tryd.prog 151 2 = some (2, 125) := by kernel_rfl
theorem T.fl151_3 : fldT Tryd.prog 151 3 = some (3, 145) := by kernel_rfl
theorem T.fl151_4 : fldT Tryd.prog 151 4 = some (4, 5) := by kernel_rfl
theorem T.fl151_5 : fldT Tryd.prog 151 5 = some (5, 5) := by kernel_rfl
theorem T.fl151_6 : fldT Tryd.prog 151 6 = some (6, 146) := by kernel_rfl
theorem T.fl151_7 : fldT Tryd.prog 151 7 = some (7, 147) := by kernel_rfl
theorem T.fl151_8 : fldT Tryd.prog 151 8 = some (8, 148) := by kernel_rfl
theorem T.fl151_9 : fldT Tryd.prog 151 9 = some (9, 149) := by kernel_rfl
theorem T.fl151_10 : fldT Tryd.prog 151 10 = some (10, 150) := by kernel_rfl
theorem T.pl151 : plT Tryd.prog 151 = some (some [(0, 1), (1, 1), (2, 1), (3, 1), (4, 1), (5, 1), (6, 1), (7, 1), (8, 1), (9, 1), (10, 1)]) := by kernel_rfl
theorem T.sz152 : szT Tryd.prog 152 = some 11 := by kernel_rfl
theorem T.by152 : byT Tryd.prog 152 = some 48 := by kernel_rfl
theorem T.ag152 : aggT Tryd.prog 152 = some true := by kernel_rfl
theorem T.ze152 : zeroT Tryd.prog 152 = some [(.int .u64 0), (.int .u64 0), (.int .u32 0), (.int .u8 0), (.int .u8 0), (.int .u8 0), (.int .u8 0), .nilF, .nilP, (.int .i32 0), (.int .i32 0)] := by kernel_rfl
theorem T.el152 : elT Tryd.prog 152 = none := by kernel_rfl
theorem T.fl152_0 : fldT Tryd.prog 152 0 = some (0, 12) := by kernel_rfl
theorem T.fl152_1 : fldT Tryd.prog 152 1 = some (1, 12) := by kernel_rfl
theorem T.fl152_2 : fldT Tryd.prog 152 2 = some (2, 125) := by kernel_rfl
theorem T.fl152_3 : fldT Tryd.prog 152 3 = some (3, 145) := by kernel_rfl
theorem T.fl152_4 : fldT Tryd.prog 152 4 = some (4, 5) := by kernel_rfl
theorem T.fl152_5 : fldT Tryd.prog 152 5 = some (5, 5) := by kernel_rfl
theorem T.fl152_6 : fldT Tryd.prog 152 6 = some (6, 146) := by kernel_rfl
theorem T.fl152_7 : fldT Tryd.prog 152 7 = some (7, 147) := by kernel_rfl
theorem T.fl152_8 : fldT Tryd.prog 152 8 = some (8, 148) := by kernel_rfl
theorem T.fl152_9 : fldT Tryd.prog 152 9 = some (9, 149) := by kernel_rfl
theorem T.fl152_10 : fldT Tryd.prog 152 10 = some (10, 150) := by kernel_rfl
theorem T.pl152 : plT Tryd.prog 152 = some (some [(0, 1), (1, 1), (2, 1), (3, 1), (4, 1), (5, 1), (6, 1), (7, 1), (8, 1), (9, 1), (10, 1)]) := by kernel_rfl
attribute [go_sem] T.sz1 T.by1 T.ag1 T.ze1 T.el1 T.fu1 T.ik2 T.sz2 T.by2 T.ag2 T.ze2 T.el2 T.bo2 T.ik3 T.sz3 T.by3 T.ag3 T.ze3 T.el3 T.bo3 T.sz4 T.by4 T.ag4 T.ze4 T.el4 T.bo4 T.ik5 T.sz5 T.by5 T.ag5 T.ze5 T.el5 T.bo5 T.ik6 T.sz6 T.by6 T.ag6 T.ze6 T.el6 T.bo6
attribute [go_sem] T.ik12 T.sz12 T.by12 T.ag12 T.ze12 T.el12 T.bo12 T.sz15 T.by15 T.ag15 T.ze15 T.el15 T.sz16 T.by16 T.ag16 T.ze16 T.el16 T.sz17 T.by17 T.ag17 T.ze17 T.el17 T.sz18 T.by18 T.ag18 T.ze18 T.el18 T.fl18_0 T.pl18 T.sz19 T.by19 T.ag19 T.ze19 T.el19 T.fl19_0 T.pl19 T.sz22 T.by22 T.ag22 T.ze22
attribute [go_sem] T.el22 T.sz23 T.by23 T.ag23 T.ze23 T.el23 T.sz24 T.by24 T.ag24 T.ze24 T.el24 T.fl24_0 T.fl24_1 T.pl24 T.sz25 T.by25 T.ag25 T.ze25 T.el25 T.fl25_0 T.fl25_1 T.pl25 T.sz26 T.by26 T.ag26 T.ze26 T.el26 T.sz27 T.by27 T.ag27 T.ze27 T.el27 T.fl27_0 T.fl27_1 T.fl27_2 T.fl27_3 T.fl27_4 T.pl27 T.sz28 T.by28
attribute [go_sem] T.ag28 T.ze28 T.el28 T.fl28_0 T.fl28_1 T.fl28_2 T.fl28_3 T.fl28_4 T.pl28 T.sz29 T.by29 T.ag29 T.ze29 T.el29 T.fl29_0 T.fl29_1 T.fl29_2 T.fl29_3 T.fl29_4 T.pl29 T.fi29 T.fn29 T.sz30 T.by30 T.ag30 T.ze30 T.el30 T.fl30_0 T.fl30_1 T.fl30_2 T.fl30_3 T.fl30_4 T.pl30 T.fi30 T.fn30 T.sz31 T.by31 T.ag31 T.ze31 T.el31
attribute [go_sem] T.fu31 T.sz32 T.by32 T.ag32 T.ze32 T.el32 T.fu32 T.sz34 T.by34 T.ag34 T.ze34 T.el34 T.fu34 T.sz35 T.by35 T.ag35 T.ze35 T.el35 T.fu35 T.sz36 T.by36 T.ag36 T.ze36 T.el36 T.fu36 T.sz37 T.by37 T.ag37 T.ze37 T.el37 T.fu37 T.ik38 T.sz38 T.by38 T.ag38 T.ze38 T.el38 T.bo38 T.sz40 T.by40
attribute [go_sem] T.ag40 T.ze40 T.el40 T.fu40 T.sz41 T.by41 T.ag41 T.ze41 T.el41 T.fu41 T.sz42 T.by42 T.ag42 T.ze42 T.el42 T.fu42 T.sz43 T.by43 T.ag43 T.ze43 T.el43 T.fu43 T.sz44 T.by44 T.ag44 T.ze44 T.el44 T.fu44 T.sz46 T.by46 T.ag46 T.ze46 T.el46 T.fu46 T.sz47 T.by47 T.ag47 T.ze47 T.el47 T.fu47
attribute [go_sem] T.sz49 T.by49 T.ag49 T.ze49 T.el49 T.fu49 T.sz50 T.by50 T.ag50 T.ze50 T.el50 T.fu50 T.sz51 T.by51 T.ag51 T.ze51 T.el51 T.fu51 T.sz53 T.by53 T.ag53 T.ze53 T.el53 T.fu53 T.sz54 T.by54 T.ag54 T.ze54 T.el54 T.fu54 T.sz55 T.by55 T.ag55 T.ze55 T.el55 T.fu55 T.sz57 T.by57 T.ag57 T.ze57
attribute [go_sem] T.el57 T.fu57 T.sz58 T.by58 T.ag58 T.ze58 T.el58 T.fl58_0 T.fl58_1 T.fl58_2 T.pl58 T.fi58 T.fn58 T.sz59 T.by59 T.ag59 T.ze59 T.el59 T.fl59_0 T.fl59_1 T.fl59_2 T.pl59 T.fi59 T.fn59 T.sz60 T.by60 T.ag60 T.ze60 T.el60 T.fu60 T.sz61 T.by61 T.ag61 T.ze61 T.el61 T.fu61 T.sz62 T.by62 T.ag62 T.ze62
attribute [go_sem] T.el62 T.fu62 T.sz63 T.by63 T.ag63 T.ze63 T.el63 T.fu63 T.sz64 T.by64 T.ag64 T.ze64 T.el64 T.fu64 T.sz65 T.by65 T.ag65 T.ze65 T.el65 T.fl65_0 T.fl65_1 T.pl65 T.fi65 T.fn65 T.sz66 T.by66 T.ag66 T.ze66 T.el66 T.fl66_0 T.fl66_1 T.pl66 T.fi66 T.fn66 T.sz67 T.by67 T.ag67 T.ze67 T.el67 T.fl67_0
attribute [go_sem] T.fl67_1 T.fl67_2 T.fl67_3 T.pl67 T.fi67 T.fn67 T.sz68 T.by68 T.ag68 T.ze68 T.el68 T.fl68_0 T.fl68_1 T.fl68_2 T.fl68_3 T.pl68 T.fi68 T.fn68 T.sz69 T.by69 T.ag69 T.ze69 T.el69 T.fu69 T.sz70 T.by70 T.ag70 T.ze70 T.el70 T.fu70 T.sz71 T.by71 T.ag71 T.ze71 T.el71 T.fu71 T.sz72 T.by72 T.ag72 T.ze72
attribute [go_sem] T.el72 T.fu72 T.sz73 T.by73 T.ag73 T.ze73 T.el73 T.fu73 T.sz74 T.by74 T.ag74 T.ze74 T.el74 T.fu74 T.sz75 T.by75 T.ag75 T.ze75 T.el75 T.fu75 T.sz76 T.by76 T.ag76 T.ze76 T.el76 T.fu76 T.sz77 T.by77 T.ag77 T.ze77 T.el77 T.sz79 T.by79 T.ag79 T.ze79 T.el79 T.fu79 T.sz80 T.by80 T.ag80
attribute [go_sem] T.ze80 T.el80 T.fu80 T.sz81 T.by81 T.ag81 T.ze81 T.el81 T.fu81 T.sz82 T.by82 T.ag82 T.ze82 T.el82 T.fu82 T.sz83 T.by83 T.ag83 T.ze83 T.el83 T.fu83 T.sz85 T.by85 T.ag85 T.ze85 T.el85 T.fu85 T.ik86 T.sz86 T.by86 T.ag86 T.ze86 T.el86 T.bo86 T.ik87 T.sz87 T.by87 T.ag87 T.ze87 T.el87
attribute [go_sem] T.bo87 T.sz88 T.by88 T.ag88 T.ze88 T.el88 T.fl88_0 T.fl88_1 T.fl88_2 T.pl88 T.sz89 T.by89 T.ag89 T.ze89 T.el89 T.fl89_0 T.fl89_1 T.fl89_2 T.pl89 T.sz90 T.by90 T.ag90 T.ze90 T.el90 T.sz91 T.by91 T.ag91 T.ze91 T.el91 T.mt91 T.sz92 T.by92 T.ag92 T.ze92 T.el92 T.fl92_0 T.fl92_1 T.fl92_2 T.pl92 T.sz93
attribute [go_sem] T.by93 T.ag93 T.ze93 T.el93 T.fl93_0 T.fl93_1 T.fl93_2 T.pl93 T.sz94 T.by94 T.ag94 T.ze94 T.el94 T.fu94 T.sz95 T.by95 T.ag95 T.ze95 T.el95 T.fu95 T.sz96 T.by96 T.ag96 T.ze96 T.el96 T.fu96 T.sz97 T.by97 T.ag97 T.ze97 T.el97 T.fu97 T.sz98 T.by98 T.ag98 T.ze98 T.el98 T.fl98_0 T.fl98_1 T.pl98
attribute [go_sem] T.fi98 T.fn98 T.sz99 T.by99 T.ag99 T.ze99 T.el99 T.fl99_0 T.fl99_1 T.pl99 T.fi99 T.fn99 T.sz101 T.by101 T.ag101 T.ze101 T.el101 T.fu101 T.sz102 T.by102 T.ag102 T.ze102 T.el102 T.fu102 T.sz103 T.by103 T.ag103 T.ze103 T.el103 T.sz104 T.by104 T.ag104 T.ze104 T.el104 T.fu104 T.sz105 T.by105 T.ag105 T.ze105 T.el105
attribute [go_sem] T.fu105 T.sz106 T.by106 T.ag106 T.ze106 T.el106 T.fu106 T.sz107 T.by107 T.ag107 T.ze107 T.el107 T.fu107 T.sz108 T.by108 T.ag108 T.ze108 T.el108 T.fu108 T.sz109 T.by109 T.ag109 T.ze109 T.el109 T.fu109 T.sz110 T.by110 T.ag110 T.ze110 T.el110 T.ar110 T.pl110 T.sz112 T.by112 T.ag112 T.ze112 T.el112 T.fu112 T.sz113 T.by113
attribute [go_sem] T.ag113 T.ze113 T.el113 T.fu113 T.sz114 T.by114 T.ag114 T.ze114 T.el114 T.fu114 T.sz115 T.by115 T.ag115 T.ze115 T.el115 T.fu115 T.sz116 T.by116 T.ag116 T.ze116 T.el116 T.fu116 T.sz117 T.by117 T.ag117 T.ze117 T.el117 T.fu117 T.sz118 T.by118 T.ag118 T.ze118 T.el118 T.fu118 T.sz119 T.by119 T.ag119 T.ze119 T.el119 T.fu119
attribute [go_sem] T.sz120 T.by120 T.ag120 T.ze120 T.el120 T.fu120 T.sz121 T.by121 T.ag121 T.ze121 T.el121 T.fu121 T.sz122 T.by122 T.ag122 T.ze122 T.el122 T.fu122 T.sz123 T.by123 T.ag123 T.ze123 T.el123 T.fu123 T.sz124 T.by124 T.ag124 T.ze124 T.el124 T.fu124 T.sz126 T.by126 T.ag126 T.ze126 T.el126 T.fu126 T.ik127 T.sz127 T.by127 T.ag127
attribute [go_sem] T.ze127 T.el127 T.bo127 T.sz128 T.by128 T.ag128 T.ze128 T.el128 T.fu128 T.sz129 T.by129 T.ag129 T.ze129 T.el129 T.sz130 T.by130 T.ag130 T.ze130 T.el130 T.fu130 T.sz131 T.by131 T.ag131 T.ze131 T.el131 T.fu131 T.sz132 T.by132 T.ag132 T.ze132 T.el132 T.fu132 T.sz133 T.by133 T.ag133 T.ze133 T.el133 T.ar133 T.pl133 T.sz134
attribute [go_sem] T.by134 T.ag134 T.ze134 T.el134 T.fl134_0 T.fl134_1 T.fl134_2 T.fl134_3 T.pl134 T.sz135 T.by135 T.ag135 T.ze135 T.el135 T.fl135_0 T.fl135_1 T.fl135_2 T.fl135_3 T.pl135 T.sz136 T.by136 T.ag136 T.ze136 T.el136 T.ar136 T.pl136 T.sz137 T.by137 T.ag137 T.ze137 T.el137 T.ar137 T.pl137 T.sz138 T.by138 T.ag138 T.ze138 T.el138 T.fu138 T.sz139
attribute [go_sem] T.by139 T.ag139 T.ze139 T.el139 T.fl139_0 T.fl139_1 T.fl139_2 T.fl139_3 T.pl139 T.sz140 T.by140 T.ag140 T.ze140 T.el140 T.fl140_0 T.fl140_1 T.fl140_2 T.fl140_3 T.pl140 T.sz141 T.by141 T.ag141 T.ze141 T.el141 T.ar141 T.pl141 T.sz142 T.by142 T.ag142 T.ze142 T.el142 T.pl142 T.sz143 T.by143 T.ag143 T.ze143 T.el143 T.pl143 T.sz144 T.by144
attribute [go_sem] T.ag144 T.ze144 T.el144 T.fu144 T.ik145 T.sz145 T.by145 T.ag145 T.ze145 T.el145 T.bo145 T.ik146 T.sz146 T.by146 T.ag146 T.ze146 T.el146 T.bo146 T.sz147 T.by147 T.ag147 T.ze147 T.el147 T.fu147 T.sz148 T.by148 T.ag148 T.ze148 T.el148 T.sz151 T.by151 T.ag151 T.ze151 T.el151 T.fl151_0 T.fl151_1 T.fl151_2 T.fl151_3 T.fl151_4 T.fl151_5
attribute [go_sem] T.fl151_6 T.fl151_7 T.fl151_8 T.fl151_9 T.fl151_10 T.pl151 T.sz152 T.by152 T.ag152 T.ze152 T.el152 T.fl152_0 T.fl152_1 T.fl152_2 T.fl152_3 T.fl152_4 T.fl152_5 T.fl152_6 T.fl152_7 T.fl152_8 T.fl152_9 T.fl152_10 T.pl152
end Go.Proofs.YtjlopclpofbgbaaDoor

