/- Contracts of functions of the given program, without a condition beyond those that each theorem states; they lead to the given statement. -/
import Derived.Test.YtoadkchhimojlaaFlB
import Derived.Test.YtoadkchhimojlaaProg
namespace Go.Proofs.Ytoadkchhimojlaa
open Go Go.Fl
theorem T.sz1 : szT Try.prog 1 = some 1 := by kernel_rfl
theorem T.by1 : byT Try.prog 1 = some 8 := by kernel_rfl
theorem T.ag1 : aggT Try.prog 1 = some false := by kernel_rfl
theorem T.ze1 : zeroT Try.prog 1 = some [.nilF] := by kernel_rfl
theorem T.el1 : elT Try.prog 1 = none := by kernel_rfl
theorem T.fu1 : funcT Try.prog 1 = true := by kernel_rfl
theorem T.ik2 : ikT Try.prog 2 = some .i64 := by kernel_rfl
theorem T.sz2 : szT Try.prog 2 = some 1 := by kernel_rfl
theorem T.by2 : byT Try.prog 2 = some 8 := by kernel_rfl
theorem T.ag2 : aggT Try.prog 2 = some false := by kernel_rfl
theorem T.ze2 : zeroT Try.prog 2 = some [(.int .i64 0)] := by kernel_rfl
theorem T.el2 : elT Try.prog 2 = none := by kernel_rfl
theorem T.bo2 : boolT Try.prog 2 = false := by kernel_rfl
theorem T.ik3 : ikT Try.prog 3 = some .i64 := by kernel_rfl
theorem T.sz3 : szT Try.prog 3 = some 1 := by kernel_rfl
theorem T.by3 : byT Try.prog 3 = some 8 := by kernel_rfl
theorem T.ag3 : aggT Try.prog 3 = some false := by kernel_rfl
theorem T.ze3 : zeroT Try.prog 3 = some [(.int .i64 0)] := by kernel_rfl
theorem T.el3 : elT Try.prog 3 = none := by kernel_rfl
theorem T.bo3 : boolT Try.prog 3 = false := by kernel_rfl
theorem T.sz4 : szT Try.prog 4 = some 1 := by kernel_rfl
theorem T.by4 : byT Try.prog 4 = some 1 := by kernel_rfl
theorem T.ag4 : aggT Try.prog 4 = some false := by kernel_rfl
theorem T.ze4 : zeroT Try.prog 4 = some [.bool false] := by kernel_rfl
theorem T.el4 : elT Try.prog 4 = none := by kernel_rfl
theorem T.bo4 : boolT Try.prog 4 = true := by kernel_rfl
theorem T.ik5 : ikT Try.prog 5 = some .u8 := by kernel_rfl
theorem T.sz5 : szT Try.prog 5 = some 1 := by kernel_rfl
theorem T.by5 : byT Try.prog 5 = some 1 := by kernel_rfl
theorem T.ag5 : aggT Try.prog 5 = some false := by kernel_rfl
theorem T.ze5 : zeroT Try.prog 5 = some [(.int .u8 0)] := by kernel_rfl
theorem T.el5 : elT Try.prog 5 = none := by kernel_rfl
theorem T.bo5 : boolT Try.prog 5 = false := by kernel_rfl
theorem T.ik6 : ikT Try.prog 6 = some .u8 := by kernel_rfl
theorem T.sz6 : szT Try.prog 6 = some 1 := by kernel_rfl
theorem T.by6 : byT Try.prog 6 = some 1 := by kernel_rfl
theorem T.ag6 : aggT Try.prog 6 = some false := by kernel_rfl
theorem T.ze6 : zeroT Try.prog 6 = some [(.int .u8 0)] := by kernel_rfl
theorem T.el6 : elT Try.prog 6 = none := by kernel_rfl
theorem T.bo6 : boolT Try.prog 6 = false := by kernel_rfl
theorem T.ik12 : ikT Try.prog 12 = some .u64 := by kernel_rfl
theorem T.sz12 : szT Try.prog 12 = some 1 := by kernel_rfl
theorem T.by12 : byT Try.prog 12 = some 8 := by kernel_rfl
theorem T.ag12 : aggT Try.prog 12 = some false := by kernel_rfl
theorem T.ze12 : zeroT Try.prog 12 = some [(.int .u64 0)] := by kernel_rfl
theorem T.el12 : elT Try.prog 12 = none := by kernel_rfl
theorem T.bo12 : boolT Try.prog 12 = false := by kernel_rfl
theorem T.sz15 : szT Try.prog 15 = some 1 := by kernel_rfl
theorem T.by15 : byT Try.prog 15 = some 8 := by kernel_rfl
theorem T.ag15 : aggT Try.prog 15 = some false := by kernel_rfl
theorem T.ze15 : zeroT Try.prog 15 = some [.nilP] := by kernel_rfl
theorem T.el15 : elT Try.prog 15 = none := by kernel_rfl
theorem T.sz16 : szT Try.prog 16 = some 1 := by kernel_rfl
theorem T.by16 : byT Try.prog 16 = some 8 := by kernel_rfl
theorem T.ag16 : aggT Try.prog 16 = some false := by kernel_rfl
theorem T.ze16 : zeroT Try.prog 16 = some [.nilP] := by kernel_rfl
theorem T.el16 : elT Try.prog 16 = none := by kernel_rfl
theorem T.sz17 : szT Try.prog 17 = some 1 := by kernel_rfl
theorem T.by17 : byT Try.prog 17 = some 8 := by kernel_rfl
theorem T.ag17 : aggT Try.prog 17 = some false := by kernel_rfl
theorem T.ze17 : zeroT Try.prog 17 = some [.nilP] := by kernel_rfl
theorem T.el17 : elT Try.prog 17 = none := by kernel_rfl
theorem T.sz18 : szT Try.prog 18 = some 1 := by kernel_rfl
theorem T.by18 : byT Try.prog 18 = some 8 := by kernel_rfl
theorem T.ag18 : aggT Try.prog 18 = some true := by kernel_rfl
theorem T.ze18 : zeroT Try.prog 18 = some [.nilP] := by kernel_rfl
theorem T.el18 : elT Try.prog 18 = none := by kernel_rfl
theorem T.fl18_0 : fldT Try.prog 18 0 = some (0, 17) := by kernel_rfl
theorem T.pl18 : plT Try.prog 18 = some (some [(0, 1)]) := by kernel_rfl
theorem T.sz19 : szT Try.prog 19 = some 1 := by kernel_rfl
theorem T.by19 : byT Try.prog 19 = some 8 := by kernel_rfl
theorem T.ag19 : aggT Try.prog 19 = some true := by kernel_rfl
theorem T.ze19 : zeroT Try.prog 19 = some [.nilP] := by kernel_rfl
theorem T.el19 : elT Try.prog 19 = none := by kernel_rfl
theorem T.fl19_0 : fldT Try.prog 19 0 = some (0, 17) := by kernel_rfl
theorem T.pl19 : plT Try.prog 19 = some (some [(0, 1)]) := by kernel_rfl
theorem T.sz22 : szT Try.prog 22 = some 1 := by kernel_rfl
theorem T.by22 : byT Try.prog 22 = some 24 := by kernel_rfl
theorem T.ag22 : aggT Try.prog 22 = some false := by kernel_rfl
theorem T.ze22 : zeroT Try.prog 22 = some [.nilS] := by kernel_rfl
theorem T.el22 : elT Try.prog 22 = some (71, 3) := by kernel_rfl
theorem T.sz23 : szT Try.prog 23 = some 1 := by kernel_rfl
theorem T.by23 : byT Try.prog 23 = some 24 := by kernel_rfl
theorem T.ag23 : aggT Try.prog 23 = some false := by kernel_rfl
theorem T.ze23 : zeroT Try.prog 23 = some [.nilS] := by kernel_rfl
theorem T.el23 : elT Try.prog 23 = some (24, 1) := by kernel_rfl
theorem T.sz24 : szT Try.prog 24 = some 1 := by kernel_rfl
theorem T.by24 : byT Try.prog 24 = some 24 := by kernel_rfl
theorem T.ag24 : aggT Try.prog 24 = some false := by kernel_rfl
theorem T.ze24 : zeroT Try.prog 24 = some [.nilS] := by kernel_rfl
theorem T.el24 : elT Try.prog 24 = some (3, 1) := by kernel_rfl
theorem T.sz25 : szT Try.prog 25 = some 4 := by kernel_rfl
theorem T.by25 : byT Try.prog 25 = some 80 := by kernel_rfl
theorem T.ag25 : aggT Try.prog 25 = some true := by kernel_rfl
theorem T.ze25 : zeroT Try.prog 25 = some [.nilS, .nilS, .nilS, (.int .i64 0)] := by kernel_rfl
theorem T.el25 : elT Try.prog 25 = none := by kernel_rfl
theorem T.fl25_0 : fldT Try.prog 25 0 = some (0, 22) := by kernel_rfl
theorem T.fl25_1 : fldT Try.prog 25 1 = some (1, 23) := by kernel_rfl
theorem T.fl25_2 : fldT Try.prog 25 2 = some (2, 24) := by kernel_rfl
theorem T.fl25_3 : fldT Try.prog 25 3 = some (3, 3) := by kernel_rfl
theorem T.pl25 : plT Try.prog 25 = some (some [(0, 1), (1, 1), (2, 1), (3, 1)]) := by kernel_rfl
theorem T.sz26 : szT Try.prog 26 = some 4 := by kernel_rfl
theorem T.by26 : byT Try.prog 26 = some 80 := by kernel_rfl
theorem T.ag26 : aggT Try.prog 26 = some true := by kernel_rfl
theorem T.ze26 : zeroT Try.prog 26 = some [.nilS, .nilS, .nilS, (.int .i64 0)] := by kernel_rfl
theorem T.el26 : elT Try.prog 26 = none := by kernel_rfl
theorem T.fl26_0 : fldT Try.prog 26 0 = some (0, 22) := by kernel_rfl
theorem T.fl26_1 : fldT Try.prog 26 1 = some (1, 23) := by kernel_rfl
theorem T.fl26_2 : fldT Try.prog 26 2 = some (2, 24) := by kernel_rfl
theorem T.fl26_3 : fldT Try.prog 26 3 = some (3, 3) := by kernel_rfl
theorem T.pl26 : plT Try.prog 26 = some (some [(0, 1), (1, 1), (2, 1), (3, 1)]) := by kernel_rfl
theorem T.sz27 : szT Try.prog 27 = some 1 := by kernel_rfl
theorem T.by27 : byT Try.prog 27 = some 24 := by kernel_rfl
theorem T.ag27 : aggT Try.prog 27 = some false := by kernel_rfl
theorem T.ze27 : zeroT Try.prog 27 = some [.nilS] := by kernel_rfl
theorem T.el27 : elT Try.prog 27 = some (62, 3) := by kernel_rfl
theorem T.sz28 : szT Try.prog 28 = some 1 := by kernel_rfl
theorem T.by28 : byT Try.prog 28 = some 24 := by kernel_rfl
theorem T.ag28 : aggT Try.prog 28 = some false := by kernel_rfl
theorem T.ze28 : zeroT Try.prog 28 = some [.nilS] := by kernel_rfl
theorem T.el28 : elT Try.prog 28 = some (44, 3) := by kernel_rfl
theorem T.sz29 : szT Try.prog 29 = some 4 := by kernel_rfl
theorem T.by29 : byT Try.prog 29 = some 80 := by kernel_rfl
theorem T.ag29 : aggT Try.prog 29 = some true := by kernel_rfl
theorem T.ze29 : zeroT Try.prog 29 = some [.nilS, .nilS, .nilS, (.int .i64 0)] := by kernel_rfl
theorem T.el29 : elT Try.prog 29 = none := by kernel_rfl
theorem T.fl29_0 : fldT Try.prog 29 0 = some (0, 27) := by kernel_rfl
theorem T.fl29_1 : fldT Try.prog 29 1 = some (1, 28) := by kernel_rfl
theorem T.fl29_2 : fldT Try.prog 29 2 = some (2, 24) := by kernel_rfl
theorem T.fl29_3 : fldT Try.prog 29 3 = some (3, 3) := by kernel_rfl
theorem T.pl29 : plT Try.prog 29 = some (some [(0, 1), (1, 1), (2, 1), (3, 1)]) := by kernel_rfl
theorem T.sz30 : szT Try.prog 30 = some 4 := by kernel_rfl
theorem T.by30 : byT Try.prog 30 = some 80 := by kernel_rfl
theorem T.ag30 : aggT Try.prog 30 = some true := by kernel_rfl
theorem T.ze30 : zeroT Try.prog 30 = some [.nilS, .nilS, .nilS, (.int .i64 0)] := by kernel_rfl
theorem T.el30 : elT Try.prog 30 = none := by kernel_rfl
theorem T.fl30_0 : fldT Try.prog 30 0 = some (0, 27) := by kernel_rfl
theorem T.fl30_1 : fldT Try.prog 30 1 = some (1, 28) := by kernel_rfl
theorem T.fl30_2 : fldT Try.prog 30 2 = some (2, 24) := by kernel_rfl
theorem T.fl30_3 : fldT Try.prog 30 3 = some (3, 3) := by kernel_rfl
theorem T.pl30 : plT Try.prog 30 = some (some [(0, 1), (1, 1), (2, 1), (3, 1)]) := by kernel_rfl
theorem T.sz31 : szT Try.prog 31 = some 1 := by kernel_rfl
theorem T.by31 : byT Try.prog 31 = some 8 := by kernel_rfl
theorem T.ag31 : aggT Try.prog 31 = some false := by kernel_rfl
theorem T.ze31 : zeroT Try.prog 31 = some [.nilF] := by kernel_rfl
theorem T.el31 : elT Try.prog 31 = none := by kernel_rfl
theorem T.fu31 : funcT Try.prog 31 = true := by kernel_rfl
theorem T.sz32 : szT Try.prog 32 = some 1 := by kernel_rfl
theorem T.by32 : byT Try.prog 32 = some 8 := by kernel_rfl
theorem T.ag32 : aggT Try.prog 32 = some false := by kernel_rfl
theorem T.ze32 : zeroT Try.prog 32 = some [.nilF] := by kernel_rfl
theorem T.el32 : elT Try.prog 32 = none := by kernel_rfl
theorem T.fu32 : funcT Try.prog 32 = true := by kernel_rfl
theorem T.ik33 : ikT Try.prog 33 = some .i64 := by kernel_rfl
theorem T.sz33 : szT Try.prog 33 = some 1 := by kernel_rfl
theorem T.by33 : byT Try.prog 33 = some 8 := by kernel_rfl
theorem T.ag33 : aggT Try.prog 33 = some false := by kernel_rfl
theorem T.ze33 : zeroT Try.prog 33 = some [(.int .i64 0)] := by kernel_rfl
theorem T.el33 : elT Try.prog 33 = none := by kernel_rfl
theorem T.bo33 : boolT Try.prog 33 = false := by kernel_rfl
theorem T.sz34 : szT Try.prog 34 = some 1 := by kernel_rfl
theorem T.by34 : byT Try.prog 34 = some 8 := by kernel_rfl
theorem T.ag34 : aggT Try.prog 34 = some false := by kernel_rfl
theorem T.ze34 : zeroT Try.prog 34 = some [.nilF] := by kernel_rfl
theorem T.el34 : elT Try.prog 34 = none := by kernel_rfl
theorem T.fu34 : funcT Try.prog 34 = true := by kernel_rfl
theorem T.sz35 : szT Try.prog 35 = some 1 := by kernel_rfl
theorem T.by35 : byT Try.prog 35 = some 8 := by kernel_rfl
theorem T.ag35 : aggT Try.prog 35 = some false := by kernel_rfl
theorem T.ze35 : zeroT Try.prog 35 = some [.nilF] := by kernel_rfl
theorem T.el35 : elT Try.prog 35 = none := by kernel_rfl
theorem T.fu35 : funcT Try.prog 35 = true := by kernel_rfl
theorem T.sz36 : szT Try.prog 36 = some 1 := by kernel_rfl
theorem T.by36 : byT Try.prog 36 = some 8 := by kernel_rfl
theorem T.ag36 : aggT Try.prog 36 = some false := by kernel_rfl
theorem T.ze36 : zeroT Try.prog 36 = some [.nilF] := by kernel_rfl
theorem T.el36 : elT Try.prog 36 = none := by kernel_rfl
theorem T.fu36 : funcT Try.prog 36 = true := by kernel_rfl
theorem T.sz37 : szT Try.prog 37 = some 1 := by kernel_rfl
theorem T.by37 : byT Try.prog 37 = some 8 := by kernel_rfl
theorem T.ag37 : aggT Try.prog 37 = some false := by kernel_rfl
theorem T.ze37 : zeroT Try.prog 37 = some [.nilF] := by kernel_rfl
theorem T.el37 : elT Try.prog 37 = none := by kernel_rfl
theorem T.fu37 : funcT Try.prog 37 = true := by kernel_rfl
theorem T.sz38 : szT Try.prog 38 = some 1 := by kernel_rfl
theorem T.by38 : byT Try.prog 38 = some 8 := by kernel_rfl
theorem T.ag38 : aggT Try.prog 38 = some false := by kernel_rfl
theorem T.ze38 : zeroT Try.prog 38 = some [.nilF] := by kernel_rfl
theorem T.el38 : elT Try.prog 38 = none := by kernel_rfl
theorem T.fu38 : funcT Try.prog 38 = true := by kernel_rfl
theorem T.sz39 : szT Try.prog 39 = some 1 := by kernel_rfl
theorem T.by39 : byT Try.prog 39 = some 8 := by kernel_rfl
theorem T.ag39 : aggT Try.prog 39 = some false := by kernel_rfl
theorem T.ze39 : zeroT Try.prog 39 = some [.nilF] := by kernel_rfl
theorem T.el39 : elT Try.prog 39 = none := by kernel_rfl
theorem T.fu39 : funcT Try.prog 39 = true := by kernel_rfl
theorem T.sz41 : szT Try.prog 41 = some 1 := by kernel_rfl
theorem T.by41 : byT Try.prog 41 = some 8 := by kernel_rfl
theorem T.ag41 : aggT Try.prog 41 = some false := by kernel_rfl
theorem T.ze41 : zeroT Try.prog 41 = some [.nilF] := by kernel_rfl
theorem T.el41 : elT Try.prog 41 = none := by kernel_rfl
theorem T.fu41 : funcT Try.prog 41 = true := by kernel_rfl
theorem T.sz42 : szT Try.prog 42 = some 1 := by kernel_rfl
theorem T.by42 : byT Try.prog 42 = some 8 := by kernel_rfl
theorem T.ag42 : aggT Try.prog 42 = some false := by kernel_rfl
theorem T.ze42 : zeroT Try.prog 42 = some [.nilF] := by kernel_rfl
theorem T.el42 : elT Try.prog 42 = none := by kernel_rfl
theorem T.fu42 : funcT Try.prog 42 = true := by kernel_rfl
theorem T.sz43 : szT Try.prog 43 = some 3 := by kernel_rfl
theorem T.by43 : byT Try.prog 43 = some 24 := by kernel_rfl
theorem T.ag43 : aggT Try.prog 43 = some true := by kernel_rfl
theorem T.ze43 : zeroT Try.prog 43 = some [(.int .i64 0), (.int .i64 0), (.int .i64 0)] := by kernel_rfl
theorem T.el43 : elT Try.prog 43 = none := by kernel_rfl
theorem T.fl43_0 : fldT Try.prog 43 0 = some (0, 3) := by kernel_rfl
theorem T.fl43_1 : fldT Try.prog 43 1 = some (1, 3) := by kernel_rfl
theorem T.fl43_2 : fldT Try.prog 43 2 = some (2, 3) := by kernel_rfl
theorem T.pl43 : plT Try.prog 43 = some (some [(0, 1), (1, 1), (2, 1)]) := by kernel_rfl
theorem T.fi43 : flatI Try.prog 43 = true := by kernel_rfl
theorem T.fn43 : flatN Try.prog 43 = 3 := by kernel_rfl
theorem T.sz44 : szT Try.prog 44 = some 3 := by kernel_rfl
theorem T.by44 : byT Try.prog 44 = some 24 := by kernel_rfl
theorem T.ag44 : aggT Try.prog 44 = some true := by kernel_rfl
theorem T.ze44 : zeroT Try.prog 44 = some [(.int .i64 0), (.int .i64 0), (.int .i64 0)] := by kernel_rfl
theorem T.el44 : elT Try.prog 44 = none := by kernel_rfl
theorem T.fl44_0 : fldT Try.prog 44 0 = some (0, 3) := by kernel_rfl
theorem T.fl44_1 : fldT Try.prog 44 1 = some (1, 3) := by kernel_rfl
theorem T.fl44_2 : fldT Try.prog 44 2 = some (2, 3) := by kernel_rfl
theorem T.pl44 : plT Try.prog 44 = some (some [(0, 1), (1, 1), (2, 1)]) := by kernel_rfl
theorem T.fi44 : flatI Try.prog 44 = true := by kernel_rfl
theorem T.fn44 : flatN Try.prog 44 = 3 := by kernel_rfl
theorem T.sz45 : szT Try.prog 45 = some 1 := by kernel_rfl
theorem T.by45 : byT Try.prog 45 = some 8 := by kernel_rfl
theorem T.ag45 : aggT Try.prog 45 = some false := by kernel_rfl
theorem T.ze45 : zeroT Try.prog 45 = some [.nilF] := by kernel_rfl
theorem T.el45 : elT Try.prog 45 = none := by kernel_rfl
theorem T.fu45 : funcT Try.prog 45 = true := by kernel_rfl
theorem T.sz46 : szT Try.prog 46 = some 1 := by kernel_rfl
theorem T.by46 : byT Try.prog 46 = some 24 := by kernel_rfl
theorem T.ag46 : aggT Try.prog 46 = some false := by kernel_rfl
theorem T.ze46 : zeroT Try.prog 46 = some [.nilS] := by kernel_rfl
theorem T.el46 : elT Try.prog 46 = some (82, 6) := by kernel_rfl
theorem T.sz47 : szT Try.prog 47 = some 1 := by kernel_rfl
theorem T.by47 : byT Try.prog 47 = some 24 := by kernel_rfl
theorem T.ag47 : aggT Try.prog 47 = some true := by kernel_rfl
theorem T.ze47 : zeroT Try.prog 47 = some [.nilS] := by kernel_rfl
theorem T.el47 : elT Try.prog 47 = none := by kernel_rfl
theorem T.fl47_0 : fldT Try.prog 47 0 = some (0, 46) := by kernel_rfl
theorem T.pl47 : plT Try.prog 47 = some (some [(0, 1)]) := by kernel_rfl
theorem T.sz48 : szT Try.prog 48 = some 1 := by kernel_rfl
theorem T.by48 : byT Try.prog 48 = some 24 := by kernel_rfl
theorem T.ag48 : aggT Try.prog 48 = some true := by kernel_rfl
theorem T.ze48 : zeroT Try.prog 48 = some [.nilS] := by kernel_rfl
theorem T.el48 : elT Try.prog 48 = none := by kernel_rfl
theorem T.fl48_0 : fldT Try.prog 48 0 = some (0, 46) := by kernel_rfl
theorem T.pl48 : plT Try.prog 48 = some (some [(0, 1)]) := by kernel_rfl
theorem T.sz49 : szT Try.prog 49 = some 1 := by kernel_rfl
theorem T.by49 : byT Try.prog 49 = some 8 := by kernel_rfl
theorem T.ag49 : aggT Try.prog 49 = some false := by kernel_rfl
theorem T.ze49 : zeroT Try.prog 49 = some [.nilF] := by kernel_rfl
theorem T.el49 : elT Try.prog 49 = none := by kernel_rfl
theorem T.fu49 : funcT Try.prog 49 = true := by kernel_rfl
theorem T.sz50 : szT Try.prog 50 = some 1 := by kernel_rfl
theorem T.by50 : byT Try.prog 50 = some 8 := by kernel_rfl
theorem T.ag50 : aggT Try.prog 50 = some false := by kernel_rfl
theorem T.ze50 : zeroT Try.prog 50 = some [.nilF] := by kernel_rfl
theorem T.el50 : elT Try.prog 50 = none := by kernel_rfl
theorem T.fu50 : funcT Try.prog 50 = true := by kernel_rfl
theorem T.sz51 : szT Try.prog 51 = some 1 := by kernel_rfl
theorem T.by51 : byT Try.prog 51 = some 8 := by kernel_rfl
theorem T.ag51 : aggT Try.prog 51 = some false := by kernel_rfl
theorem T.ze51 : zeroT Try.prog 51 = some [.nilF] := by kernel_rfl
theorem T.el51 : elT Try.prog 51 = none := by kernel_rfl
theorem T.fu51 : funcT Try.prog 51 = true := by kernel_rfl
theorem T.sz53 : szT Try.prog 53 = some 1 := by kernel_rfl
theorem T.by53 : byT Try.prog 53 = some 8 := by kernel_rfl
theorem T.ag53 : aggT Try.prog 53 = some false := by kernel_rfl
theorem T.ze53 : zeroT Try.prog 53 = some [.nilF] := by kernel_rfl
theorem T.el53 : elT Try.prog 53 = none := by kernel_rfl
theorem T.fu53 : funcT Try.prog 53 = true := by kernel_rfl
theorem T.sz54 : szT Try.prog 54 = some 1 := by kernel_rfl
theorem T.by54 : byT Try.prog 54 = some 8 := by kernel_rfl
theorem T.ag54 : aggT Try.prog 54 = some false := by kernel_rfl
theorem T.ze54 : zeroT Try.prog 54 = some [.nilF] := by kernel_rfl
theorem T.el54 : elT Try.prog 54 = none := by kernel_rfl
theorem T.fu54 : funcT Try.prog 54 = true := by kernel_rfl
theorem T.sz55 : szT Try.prog 55 = some 1 := by kernel_rfl
theorem T.by55 : byT Try.prog 55 = some 8 := by kernel_rfl
theorem T.ag55 : aggT Try.prog 55 = some false := by kernel_rfl
theorem T.ze55 : zeroT Try.prog 55 = some [.nilF] := by kernel_rfl
theorem T.el55 : elT Try.prog 55 = none := by kernel_rfl
theorem T.fu55 : funcT Try.prog 55 = true := by kernel_rfl
theorem T.sz56 : szT Try.prog 56 = some 1 := by kernel_rfl
theorem T.by56 : byT Try.prog 56 = some 8 := by kernel_rfl
theorem T.ag56 : aggT Try.prog 56 = some false := by kernel_rfl
theorem T.ze56 : zeroT Try.prog 56 = some [.nilF] := by kernel_rfl
theorem T.el56 : elT Try.prog 56 = none := by kernel_rfl
theorem T.fu56 : funcT Try.prog 56 = true := by kernel_rfl
theorem T.sz57 : szT Try.prog 57 = some 1 := by kernel_rfl
theorem T.by57 : byT Try.prog 57 = some 8 := by kernel_rfl
theorem T.ag57 : aggT Try.prog 57 = some false := by kernel_rfl
theorem T.ze57 : zeroT Try.prog 57 = some [.nilF] := by kernel_rfl
theorem T.el57 : elT Try.prog 57 = none := by kernel_rfl
theorem T.fu57 : funcT Try.prog 57 = true := by kernel_rfl
theorem T.sz59 : szT Try.prog 59 = some 1 := by kernel_rfl
theorem T.by59 : byT Try.prog 59 = some 8 := by kernel_rfl
theorem T.ag59 : aggT Try.prog 59 = some false := by kernel_rfl
theorem T.ze59 : zeroT Try.prog 59 = some [.nilF] := by kernel_rfl
theorem T.el59 : elT Try.prog 59 = none := by kernel_rfl
theorem T.fu59 : funcT Try.prog 59 = true := by kernel_rfl
theorem T.sz60 : szT Try.prog 60 = some 1 := by kernel_rfl
theorem T.by60 : byT Try.prog 60 = some 8 := by kernel_rfl
theorem T.ag60 : aggT Try.prog 60 = some false := by kernel_rfl
theorem T.ze60 : zeroT Try.prog 60 = some [.nilF] := by kernel_rfl
theorem T.el60 : elT Try.prog 60 = none := by kernel_rfl
theorem T.fu60 : funcT Try.prog 60 = true := by kernel_rfl
theorem T.sz61 : szT Try.prog 61 = some 3 := by kernel_rfl
theorem T.by61 : byT Try.prog 61 = some 24 := by kernel_rfl
theorem T.ag61 : aggT Try.prog 61 = some true := by kernel_rfl
theorem T.ze61 : zeroT Try.prog 61 = some [(.int .i64 0), (.int .i64 0), (.int .i64 0)] := by kernel_rfl
theorem T.el61 : elT Try.prog 61 = none := by kernel_rfl
theorem T.fl61_0 : fldT Try.prog 61 0 = some (0, 3) := by kernel_rfl
theorem T.fl61_1 : fldT Try.prog 61 1 = some (1, 3) := by kernel_rfl
theorem T.fl61_2 : fldT Try.prog 61 2 = some (2, 3) := by kernel_rfl
theorem T.pl61 : plT Try.prog 61 = some (some [(0, 1), (1, 1), (2, 1)]) := by kernel_rfl
theorem T.fi61 : flatI Try.prog 61 = true := by kernel_rfl
theorem T.fn61 : flatN Try.prog 61 = 3 := by kernel_rfl
theorem T.sz62 : szT Try.prog 62 = some 3 := by kernel_rfl
theorem T.by62 : byT Try.prog 62 = some 24 := by kernel_rfl
theorem T.ag62 : aggT Try.prog 62 = some true := by kernel_rfl
theorem T.ze62 : zeroT Try.prog 62 = some [(.int .i64 0), (.int .i64 0), (.int .i64 0)] := by kernel_rfl
theorem T.el62 : elT Try.prog 62 = none := by kernel_rfl
theorem T.fl62_0 : fldT Try.prog 62 0 = some (0, 3) := by kernel_rfl
theorem T.fl62_1 : fldT Try.prog 62 1 = some (1, 3) := by kernel_rfl
theorem T.fl62_2 : fldT Try.prog 62 2 = some (2, 3) := by kernel_rfl
theorem T.pl62 : plT Try.prog 62 = some (some [(0, 1), (1, 1), (2, 1)]) := by kernel_rfl
theorem T.fi62 : flatI Try.prog 62 = true := by kernel_rfl
theorem T.fn62 : flatN Try.prog 62 = 3 := by kernel_rfl
theorem T.sz63 : szT Try.prog 63 = some 1 := by kernel_rfl
theorem T.by63 : byT Try.prog 63 = some 8 := by kernel_rfl
theorem T.ag63 : aggT Try.prog 63 = some false := by kernel_rfl
theorem T.ze63 : zeroT Try.prog 63 = some [.nilF] := by kernel_rfl
theorem T.el63 : elT Try.prog 63 = none := by kernel_rfl
theorem T.fu63 : funcT Try.prog 63 = true := by kernel_rfl
theorem T.sz65 : szT Try.prog 65 = some 1 := by kernel_rfl
theorem T.by65 : byT Try.prog 65 = some 8 := by kernel_rfl
theorem T.ag65 : aggT Try.prog 65 = some false := by kernel_rfl
theorem T.ze65 : zeroT Try.prog 65 = some [.nilF] := by kernel_rfl
theorem T.el65 : elT Try.prog 65 = none := by kernel_rfl
theorem T.fu65 : funcT Try.prog 65 = true := by kernel_rfl
theorem T.sz67 : szT Try.prog 67 = some 1 := by kernel_rfl
theorem T.by67 : byT Try.prog 67 = some 8 := by kernel_rfl
theorem T.ag67 : aggT Try.prog 67 = some false := by kernel_rfl
theorem T.ze67 : zeroT Try.prog 67 = some [.nilF] := by kernel_rfl
theorem T.el67 : elT Try.prog 67 = none := by kernel_rfl
theorem T.fu67 : funcT Try.prog 67 = true := by kernel_rfl
theorem T.sz68 : szT Try.prog 68 = some 1 := by kernel_rfl
theorem T.by68 : byT Try.prog 68 = some 8 := by kernel_rfl
theorem T.ag68 : aggT Try.prog 68 = some false := by kernel_rfl
theorem T.ze68 : zeroT Try.prog 68 = some [.nilF] := by kernel_rfl
theorem T.el68 : elT Try.prog 68 = none := by kernel_rfl
theorem T.fu68 : funcT Try.prog 68 = true := by kernel_rfl
theorem T.sz69 : szT Try.prog 69 = some 1 := by kernel_rfl
theorem T.by69 : byT Try.prog 69 = some 8 := by kernel_rfl
theorem T.ag69 : aggT Try.prog 69 = some false := by kernel_rfl
theorem T.ze69 : zeroT Try.prog 69 = some [.nilF] := by kernel_rfl
theorem T.el69 : elT Try.prog 69 = none := by kernel_rfl
theorem T.fu69 : funcT Try.prog 69 = true := by kernel_rfl
theorem T.sz70 : szT Try.prog 70 = some 3 := by kernel_rfl
theorem T.by70 : byT Try.prog 70 = some 24 := by kernel_rfl
theorem T.ag70 : aggT Try.prog 70 = some true := by kernel_rfl
theorem T.ze70 : zeroT Try.prog 70 = some [(.int .i64 0), (.int .i64 0), (.int .i64 0)] := by kernel_rfl
theorem T.el70 : elT Try.prog 70 = none := by kernel_rfl
theorem T.fl70_0 : fldT Try.prog 70 0 = some (0, 3) := by kernel_rfl
theorem T.fl70_1 : fldT Try.prog 70 1 = some (1, 3) := by kernel_rfl
theorem T.fl70_2 : fldT Try.prog 70 2 = some (2, 3) := by kernel_rfl
theorem T.pl70 : plT Try.prog 70 = some (some [(0, 1), (1, 1), (2, 1)]) := by kernel_rfl
theorem T.fi70 : flatI Try.prog 70 = true := by kernel_rfl
theorem T.fn70 : flatN Try.prog 70 = 3 := by kernel_rfl
theorem T.sz71 : szT Try.prog 71 = some 3 := by kernel_rfl
theorem T.by71 : byT Try.prog 71 = some 24 := by kernel_rfl
theorem T.ag71 : aggT Try.prog 71 = some true := by kernel_rfl
theorem T.ze71 : zeroT Try.prog 71 = some [(.int .i64 0), (.int .i64 0), (.int .i64 0)] := by kernel_rfl
theorem T.el71 : elT Try.prog 71 = none := by kernel_rfl
theorem T.fl71_0 : fldT Try.prog 71 0 = some (0, 3) := by kernel_rfl
theorem T.fl71_1 : fldT Try.prog 71 1 = some (1, 3) := by kernel_rfl
theorem T.fl71_2 : fldT Try.prog 71 2 = some (2, 3) := by kernel_rfl
theorem T.pl71 : plT Try.prog 71 = some (some [(0, 1), (1, 1), (2, 1)]) := by kernel_rfl
theorem T.fi71 : flatI Try.prog 71 = true := by kernel_rfl
theorem T.fn71 : flatN Try.prog 71 = 3 := by kernel_rfl
theorem T.sz72 : szT Try.prog 72 = some 1 := by kernel_rfl
theorem T.by72 : byT Try.prog 72 = some 8 := by kernel_rfl
theorem T.ag72 : aggT Try.prog 72 = some false := by kernel_rfl
theorem T.ze72 : zeroT Try.prog 72 = some [.nilF] := by kernel_rfl
theorem T.el72 : elT Try.prog 72 = none := by kernel_rfl
theorem T.fu72 : funcT Try.prog 72 = true := by kernel_rfl
theorem T.sz73 : szT Try.prog 73 = some 1 := by kernel_rfl
theorem T.by73 : byT Try.prog 73 = some 8 := by kernel_rfl
theorem T.ag73 : aggT Try.prog 73 = some false := by kernel_rfl
theorem T.ze73 : zeroT Try.prog 73 = some [.nilP] := by kernel_rfl
theorem T.el73 : elT Try.prog 73 = none := by kernel_rfl
theorem T.sz75 : szT Try.prog 75 = some 1 := by kernel_rfl
theorem T.by75 : byT Try.prog 75 = some 8 := by kernel_rfl
theorem T.ag75 : aggT Try.prog 75 = some false := by kernel_rfl
theorem T.ze75 : zeroT Try.prog 75 = some [.nilF] := by kernel_rfl
theorem T.el75 : elT Try.prog 75 = none := by kernel_rfl
theorem T.fu75 : funcT Try.prog 75 = true := by kernel_rfl
theorem T.sz76 : szT Try.prog 76 = some 1 := by kernel_rfl
theorem T.by76 : byT Try.prog 76 = some 8 := by kernel_rfl
theorem T.ag76 : aggT Try.prog 76 = some false := by kernel_rfl
theorem T.ze76 : zeroT Try.prog 76 = some [.nilF] := by kernel_rfl
theorem T.el76 : elT Try.prog 76 = none := by kernel_rfl
theorem T.fu76 : funcT Try.prog 76 = true := by kernel_rfl
theorem T.sz78 : szT Try.prog 78 = some 1 := by kernel_rfl
theorem T.by78 : byT Try.prog 78 = some 8 := by kernel_rfl
theorem T.ag78 : aggT Try.prog 78 = some false := by kernel_rfl
theorem T.ze78 : zeroT Try.prog 78 = some [.nilF] := by kernel_rfl
theorem T.el78 : elT Try.prog 78 = none := by kernel_rfl
theorem T.fu78 : funcT Try.prog 78 = true := by kernel_rfl
theorem T.sz79 : szT Try.prog 79 = some 2 := by kernel_rfl
theorem T.by79 : byT Try.prog 79 = some 16 := by kernel_rfl
theorem T.ag79 : aggT Try.prog 79 = some true := by kernel_rfl
theorem T.ze79 : zeroT Try.prog 79 = some [(.int .i64 0), (.int .i64 0)] := by kernel_rfl
theorem T.el79 : elT Try.prog 79 = none := by kernel_rfl
theorem T.fl79_0 : fldT Try.prog 79 0 = some (0, 3) := by kernel_rfl
theorem T.fl79_1 : fldT Try.prog 79 1 = some (1, 3) := by kernel_rfl
theorem T.pl79 : plT Try.prog 79 = some (some [(0, 1), (1, 1)]) := by kernel_rfl
theorem T.fi79 : flatI Try.prog 79 = true := by kernel_rfl
theorem T.fn79 : flatN Try.prog 79 = 2 := by kernel_rfl
theorem T.sz80 : szT Try.prog 80 = some 2 := by kernel_rfl
theorem T.by80 : byT Try.prog 80 = some 16 := by kernel_rfl
theorem T.ag80 : aggT Try.prog 80 = some true := by kernel_rfl
theorem T.ze80 : zeroT Try.prog 80 = some [(.int .i64 0), (.int .i64 0)] := by kernel_rfl
theorem T.el80 : elT Try.prog 80 = none := by kernel_rfl
theorem T.fl80_0 : fldT Try.prog 80 0 = some (0, 3) := by kernel_rfl
theorem T.fl80_1 : fldT Try.prog 80 1 = some (1, 3) := by kernel_rfl
theorem T.pl80 : plT Try.prog 80 = some (some [(0, 1), (1, 1)]) := by kernel_rfl
theorem T.fi80 : flatI Try.prog 80 = true := by kernel_rfl
theorem T.fn80 : flatN Try.prog 80 = 2 := by kernel_rfl
theorem T.sz81 : szT Try.prog 81 = some 6 := by kernel_rfl
theorem T.by81 : byT Try.prog 81 = some 48 := by kernel_rfl
theorem T.ag81 : aggT Try.prog 81 = some true := by kernel_rfl
theorem T.ze81 : zeroT Try.prog 81 = some [(.int .i64 0), (.int .i64 0), (.int .i64 0), (.int .i64 0), (.int .i64 0), (.int .i64 0)] := by kernel_rfl
theorem T.el81 : elT Try.prog 81 = none := by kernel_rfl
theorem T.fl81_0 : fldT Try.prog 81 0 = some (0, 3) := by kernel_rfl
theorem T.fl81_1 : fldT Try.prog 81 1 = some (1, 80) := by kernel_rfl
theorem T.fl81_2 : fldT Try.prog 81 2 = some (3, 3) := by kernel_rfl
theorem T.fl81_3 : fldT Try.prog 81 3 = some (4, 3) := by kernel_rfl
theorem T.fl81_4 : fldT Try.prog 81 4 = some (5, 3) := by kernel_rfl
theorem T.pl81 : plT Try.prog 81 = some (some [(0, 1), (1, 2), (3, 1), (4, 1), (5, 1)]) := by kernel_rfl
theorem T.fi81 : flatI Try.prog 81 = true := by kernel_rfl
theorem T.fn81 : flatN Try.prog 81 = 6 := by kernel_rfl
theorem T.sz82 : szT Try.prog 82 = some 6 := by kernel_rfl
theorem T.by82 : byT Try.prog 82 = some 48 := by kernel_rfl
theorem T.ag82 : aggT Try.prog 82 = some true := by kernel_rfl
theorem T.ze82 : zeroT Try.prog 82 = some [(.int .i64 0), (.int .i64 0), (.int .i64 0), (.int .i64 0), (.int .i64 0), (.int .i64 0)] := by kernel_rfl
theorem T.el82 : elT Try.prog 82 = none := by kernel_rfl
theorem T.fl82_0 : fldT Try.prog 82 0 = some (0, 3) := by kernel_rfl
theorem T.fl82_1 : fldT Try.prog 82 1 = some (1, 80) := by kernel_rfl
theorem T.fl82_2 : fldT Try.prog 82 2 = some (3, 3) := by kernel_rfl
theorem T.fl82_3 : fldT Try.prog 82 3 = some (4, 3) := by kernel_rfl
theorem T.fl82_4 : fldT Try.prog 82 4 = some (5, 3) := by kernel_rfl
theorem T.pl82 : plT Try.prog 82 = some (some [(0, 1), (1, 2), (3, 1), (4, 1), (5, 1)]) := by kernel_rfl
theorem T.fi82 : flatI Try.prog 82 = true := by kernel_rfl
theorem T.fn82 : flatN Try.prog 82 = 6 := by kernel_rfl
theorem T.sz83 : szT Try.prog 83 = some 1 := by kernel_rfl
theorem T.by83 : byT Try.prog 83 = some 8 := by kernel_rfl
theorem T.ag83 : aggT Try.prog 83 = some false := by kernel_rfl
theorem T.ze83 : zeroT Try.prog 83 = some [.nilF] := by kernel_rfl
theorem T.el83 : elT Try.prog 83 = none := by kernel_rfl
theorem T.fu83 : funcT Try.prog 83 = true := by kernel_rfl
theorem T.sz84 : szT Try.prog 84 = some 1 := by kernel_rfl
theorem T.by84 : byT Try.prog 84 = some 8 := by kernel_rfl
theorem T.ag84 : aggT Try.prog 84 = some false := by kernel_rfl
theorem T.ze84 : zeroT Try.prog 84 = some [.nilF] := by kernel_rfl
theorem T.el84 : elT Try.prog 84 = none := by kernel_rfl
theorem T.fu84 : funcT Try.prog 84 = true := by kernel_rfl
theorem T.sz85 : szT Try.prog 85 = some 1 := by kernel_rfl
theorem T.by85 : byT Try.prog 85 = some 8 := by kernel_rfl
theorem T.ag85 : aggT Try.prog 85 = some false := by kernel_rfl
theorem T.ze85 : zeroT Try.prog 85 = some [.nilF] := by kernel_rfl
theorem T.el85 : elT Try.prog 85 = none := by kernel_rfl
theorem T.fu85 : funcT Try.prog 85 = true := by kernel_rfl
theorem T.sz86 : szT Try.prog 86 = some 1 := by kernel_rfl
theorem T.by86 : byT Try.prog 86 = some 8 := by kernel_rfl
theorem T.ag86 : aggT Try.prog 86 = some false := by kernel_rfl
theorem T.ze86 : zeroT Try.prog 86 = some [.nilF] := by kernel_rfl
theorem T.el86 : elT Try.prog 86 = none := by kernel_rfl
theorem T.fu86 : funcT Try.prog 86 = true := by kernel_rfl
theorem T.sz87 : szT Try.prog 87 = some 1 := by kernel_rfl
theorem T.by87 : byT Try.prog 87 = some 8 := by kernel_rfl
theorem T.ag87 : aggT Try.prog 87 = some false := by kernel_rfl
theorem T.ze87 : zeroT Try.prog 87 = some [.nilF] := by kernel_rfl
theorem T.el87 : elT Try.prog 87 = none := by kernel_rfl
theorem T.fu87 : funcT Try.prog 87 = true := by kernel_rfl
theorem T.sz88 : szT Try.prog 88 = some 1 := by kernel_rfl
theorem T.by88 : byT Try.prog 88 = some 24 := by kernel_rfl
theorem T.ag88 : aggT Try.prog 88 = some true := by kernel_rfl
theorem T.ze88 : zeroT Try.prog 88 = some [.nilS] := by kernel_rfl
theorem T.el88 : elT Try.prog 88 = none := by kernel_rfl
theorem T.fl88_0 : fldT Try.prog 88 0 = some (0, 48) := by kernel_rfl
theorem T.pl88 : plT Try.prog 88 = some (some [(0, 1)]) := by kernel_rfl
theorem T.sz89 : szT Try.prog 89 = some 1 := by kernel_rfl
theorem T.by89 : byT Try.prog 89 = some 24 := by kernel_rfl
theorem T.ag89 : aggT Try.prog 89 = some true := by kernel_rfl
theorem T.ze89 : zeroT Try.prog 89 = some [.nilS] := by kernel_rfl
theorem T.el89 : elT Try.prog 89 = none := by kernel_rfl
theorem T.fl89_0 : fldT Try.prog 89 0 = some (0, 48) := by kernel_rfl
theorem T.pl89 : plT Try.prog 89 = some (some [(0, 1)]) := by kernel_rfl
theorem T.sz91 : szT Try.prog 91 = some 1 := by kernel_rfl
theorem T.by91 : byT Try.prog 91 = some 8 := by kernel_rfl
theorem T.ag91 : aggT Try.prog 91 = some false := by kernel_rfl
theorem T.ze91 : zeroT Try.prog 91 = some [.nilF] := by kernel_rfl
theorem T.el91 : elT Try.prog 91 = none := by kernel_rfl
theorem T.fu91 : funcT Try.prog 91 = true := by kernel_rfl
theorem T.sz92 : szT Try.prog 92 = some 1 := by kernel_rfl
theorem T.by92 : byT Try.prog 92 = some 8 := by kernel_rfl
theorem T.ag92 : aggT Try.prog 92 = some false := by kernel_rfl
theorem T.ze92 : zeroT Try.prog 92 = some [.nilF] := by kernel_rfl
theorem T.el92 : elT Try.prog 92 = none := by kernel_rfl
theorem T.fu92 : funcT Try.prog 92 = true := by kernel_rfl
theorem T.sz93 : szT Try.prog 93 = some 1 := by kernel_rfl
theorem T.by93 : byT Try.prog 93 = some 8 := by kernel_rfl
theorem T.ag93 : aggT Try.prog 93 = some false := by kernel_rfl
theorem T.ze93 : zeroT Try.prog 93 = some [.nilF] := by kernel_rfl
theorem T.el93 : elT Try.prog 93 = none := by kernel_rfl
theorem T.fu93 : funcT Try.prog 93 = true := by kernel_rfl
theorem T.sz95 : szT Try.prog 95 = some 1 := by kernel_rfl
theorem T.by95 : byT Try.prog 95 = some 8 := by kernel_rfl
theorem T.ag95 : aggT Try.prog 95 = some false := by kernel_rfl
theorem T.ze95 : zeroT Try.prog 95 = some [.nilF] := by kernel_rfl
theorem T.el95 : elT Try.prog 95 = none := by kernel_rfl
theorem T.fu95 : funcT Try.prog 95 = true := by kernel_rfl
theorem T.sz96 : szT Try.prog 96 = some 1 := by kernel_rfl
theorem T.by96 : byT Try.prog 96 = some 8 := by kernel_rfl
theorem T.ag96 : aggT Try.prog 96 = some false := by kernel_rfl
theorem T.ze96 : zeroT Try.prog 96 = some [.nilF] := by kernel_rfl
theorem T.el96 : elT Try.prog 96 = none := by kernel_rfl
theorem T.fu96 : funcT Try.prog 96 = true := by kernel_rfl
theorem T.sz98 : szT Try.prog 98 = some 1 := by kernel_rfl
theorem T.by98 : byT Try.prog 98 = some 8 := by kernel_rfl
theorem T.ag98 : aggT Try.prog 98 = some false := by kernel_rfl
theorem T.ze98 : zeroT Try.prog 98 = some [.nilF] := by kernel_rfl
theorem T.el98 : elT Try.prog 98 = none := by kernel_rfl
theorem T.fu98 : funcT Try.prog 98 = true := by kernel_rfl
theorem T.sz99 : szT Try.prog 99 = some 1 := by kernel_rfl
theorem T.by99 : byT Try.prog 99 = some 8 := by kernel_rfl
theorem T.ag99 : aggT Try.prog 99 = some false := by kernel_rfl
theorem T.ze99 : zeroT Try.prog 99 = some [.nilF] := by kernel_rfl
theorem T.el99 : elT Try.prog 99 = none := by kernel_rfl
theorem T.fu99 : funcT Try.prog 99 = true := by kernel_rfl
theorem T.sz100 : szT Try.prog 100 = some 1 := by kernel_rfl
theorem T.by100 : byT Try.prog 100 = some 8 := by kernel_rfl
theorem T.ag100 : aggT Try.prog 100 = some false := by kernel_rfl
theorem T.ze100 : zeroT Try.prog 100 = some [.nilF] := by kernel_rfl
theorem T.el100 : elT Try.prog 100 = none := by kernel_rfl
theorem T.fu100 : funcT Try.prog 100 = true := by kernel_rfl
theorem T.sz101 : szT Try.prog 101 = some 1 := by kernel_rfl
theorem T.by101 : byT Try.prog 101 = some 8 := by kernel_rfl
theorem T.ag101 : aggT Try.prog 101 = some false := by kernel_rfl
theorem T.ze101 : zeroT Try.prog 101 = some [.nilF] := by kernel_rfl
theorem T.el101 : elT Try.prog 101 = none := by kernel_rfl
theorem T.fu101 : funcT Try.prog 101 = true := by kernel_rfl
theorem T.ik102 : ikT Try.prog 102 = some .u64 := by kernel_rfl
theorem T.sz102 : szT Try.prog 102 = some 1 := by kernel_rfl
theorem T.by102 : byT Try.prog 102 = some 8 := by kernel_rfl
theorem T.ag102 : aggT Try.prog 102 = some false := by kernel_rfl
theorem T.ze102 : zeroT Try.prog 102 = some [(.int .u64 0)] := by kernel_rfl
theorem T.el102 : elT Try.prog 102 = none := by kernel_rfl
theorem T.bo102 : boolT Try.prog 102 = false := by kernel_rfl
theorem T.ik103 : ikT Try.prog 103 = some .u64 := by kernel_rfl
theorem T.sz103 : szT Try.prog 103 = some 1 := by kernel_rfl
theorem T.by103 : byT Try.prog 103 = some 8 := by kernel_rfl
theorem T.ag103 : aggT Try.prog 103 = some false := by kernel_rfl
theorem T.ze103 : zeroT Try.prog 103 = some [(.int .u64 0)] := by kernel_rfl
theorem T.el103 : elT Try.prog 103 = none := by kernel_rfl
theorem T.bo103 : boolT Try.prog 103 = false := by kernel_rfl
theorem T.sz104 : szT Try.prog 104 = some 1 := by kernel_rfl
theorem T.by104 : byT Try.prog 104 = some 8 := by kernel_rfl
theorem T.ag104 : aggT Try.prog 104 = some false := by kernel_rfl
theorem T.ze104 : zeroT Try.prog 104 = some [.nilF] := by kernel_rfl
theorem T.el104 : elT Try.prog 104 = none := by kernel_rfl
theorem T.fu104 : funcT Try.prog 104 = true := by kernel_rfl
theorem T.sz105 : szT Try.prog 105 = some 1 := by kernel_rfl
theorem T.by105 : byT Try.prog 105 = some 8 := by kernel_rfl
theorem T.ag105 : aggT Try.prog 105 = some false := by kernel_rfl
theorem T.ze105 : zeroT Try.prog 105 = some [.nilF] := by kernel_rfl
theorem T.el105 : elT Try.prog 105 = none := by kernel_rfl
theorem T.fu105 : funcT Try.prog 105 = true := by kernel_rfl
theorem T.sz106 : szT Try.prog 106 = some 1 := by kernel_rfl
theorem T.by106 : byT Try.prog 106 = some 8 := by kernel_rfl
theorem T.ag106 : aggT Try.prog 106 = some false := by kernel_rfl
theorem T.ze106 : zeroT Try.prog 106 = some [.nilF] := by kernel_rfl
theorem T.el106 : elT Try.prog 106 = none := by kernel_rfl
theorem T.fu106 : funcT Try.prog 106 = true := by kernel_rfl
theorem T.sz107 : szT Try.prog 107 = some 1 := by kernel_rfl
theorem T.by107 : byT Try.prog 107 = some 8 := by kernel_rfl
theorem T.ag107 : aggT Try.prog 107 = some false := by kernel_rfl
theorem T.ze107 : zeroT Try.prog 107 = some [.nilF] := by kernel_rfl
theorem T.el107 : elT Try.prog 107 = none := by kernel_rfl
theorem T.fu107 : funcT Try.prog 107 = true := by kernel_rfl
theorem T.sz108 : szT Try.prog 108 = some 1 := by kernel_rfl
theorem T.by108 : byT Try.prog 108 = some 8 := by kernel_rfl
theorem T.ag108 : aggT Try.prog 108 = some false := by kernel_rfl
theorem T.ze108 : zeroT Try.prog 108 = some [.nilF] := by kernel_rfl
theorem T.el108 : elT Try.prog 108 = none := by kernel_rfl
theorem T.fu108 : funcT Try.prog 108 = true := by kernel_rfl
theorem T.sz109 : szT Try.prog 109 = some 1 := by kernel_rfl
theorem T.by109 : byT Try.prog 109 = some 24 := by kernel_rfl
theorem T.ag109 : aggT Try.prog 109 = some false := by kernel_rfl
theorem T.ze109 : zeroT Try.prog 109 = some [.nilS] := by kernel_rfl
theorem T.el109 : elT Try.prog 109 = some (111, 5) := by kernel_rfl
theorem T.sz110 : szT Try.prog 110 = some 5 := by kernel_rfl
theorem T.by110 : byT Try.prog 110 = some 40 := by kernel_rfl
theorem T.ag110 : aggT Try.prog 110 = some true := by kernel_rfl
theorem T.ze110 : zeroT Try.prog 110 = some [(.int .i64 0), (.int .i64 0), (.int .i64 0), (.int .i64 0), (.int .i64 0)] := by kernel_rfl
theorem T.el110 : elT Try.prog 110 = none := by kernel_rfl
theorem T.ar110 : arT Try.prog 110 = some (5, 3, 1) := by kernel_rfl
theorem T.pl110 : plT Try.prog 110 = some none := by kernel_rfl
theorem T.sz111 : szT Try.prog 111 = some 5 := by kernel_rfl
theorem T.by111 : byT Try.prog 111 = some 40 := by kernel_rfl
theorem T.ag111 : aggT Try.prog 111 = some true := by kernel_rfl
theorem T.ze111 : zeroT Try.prog 111 = some [(.int .i64 0), (.int .i64 0), (.int .i64 0), (.int .i64 0), (.int .i64 0)] := by kernel_rfl
theorem T.el111 : elT Try.prog 111 = none := by kernel_rfl
theorem T.ar111 : arT Try.prog 111 = some (5, 3, 1) := by kernel_rfl
theorem T.pl111 : plT Try.prog 111 = some none := by kernel_rfl
theorem T.sz112 : szT Try.prog 112 = some 10 := by kernel_rfl
theorem T.by112 : byT Try.prog 112 = some 144 := by kernel_rfl
theorem T.ag112 : aggT Try.prog 112 = some true := by kernel_rfl
theorem T.ze112 : zeroT Try.prog 112 = some [.nilS, .nilS, .nilS, (.int .i64 0), .nilS, (.int .i64 0), (.int .i64 0), (.int .i64 0), (.int .i64 0), (.int .i64 0)] := by kernel_rfl
theorem T.el112 : elT Try.prog 112 = none := by kernel_rfl
theorem T.fl112_0 : fldT Try.prog 112 0 = some (0, 26) := by kernel_rfl
theorem T.fl112_1 : fldT Try.prog 112 1 = some (4, 109) := by kernel_rfl
theorem T.fl112_2 : fldT Try.prog 112 2 = some (5, 111) := by kernel_rfl
theorem T.pl112 : plT Try.prog 112 = some (some [(0, 4), (4, 1), (5, 5)]) := by kernel_rfl
theorem T.sz113 : szT Try.prog 113 = some 10 := by kernel_rfl
theorem T.by113 : byT Try.prog 113 = some 144 := by kernel_rfl
theorem T.ag113 : aggT Try.prog 113 = some true := by kernel_rfl
theorem T.ze113 : zeroT Try.prog 113 = some [.nilS, .nilS, .nilS, (.int .i64 0), .nilS, (.int .i64 0), (.int .i64 0), (.int .i64 0), (.int .i64 0), (.int .i64 0)] := by kernel_rfl
theorem T.el113 : elT Try.prog 113 = none := by kernel_rfl
theorem T.fl113_0 : fldT Try.prog 113 0 = some (0, 26) := by kernel_rfl
theorem T.fl113_1 : fldT Try.prog 113 1 = some (4, 109) := by kernel_rfl
theorem T.fl113_2 : fldT Try.prog 113 2 = some (5, 111) := by kernel_rfl
theorem T.pl113 : plT Try.prog 113 = some (some [(0, 4), (4, 1), (5, 5)]) := by kernel_rfl
theorem T.sz114 : szT Try.prog 114 = some 1 := by kernel_rfl
theorem T.by114 : byT Try.prog 114 = some 8 := by kernel_rfl
theorem T.ag114 : aggT Try.prog 114 = some false := by kernel_rfl
theorem T.ze114 : zeroT Try.prog 114 = some [.nilF] := by kernel_rfl
theorem T.el114 : elT Try.prog 114 = none := by kernel_rfl
theorem T.fu114 : funcT Try.prog 114 = true := by kernel_rfl
theorem T.sz115 : szT Try.prog 115 = some 1 := by kernel_rfl
theorem T.by115 : byT Try.prog 115 = some 8 := by kernel_rfl
theorem T.ag115 : aggT Try.prog 115 = some false := by kernel_rfl
theorem T.ze115 : zeroT Try.prog 115 = some [.nilF] := by kernel_rfl
theorem T.el115 : elT Try.prog 115 = none := by kernel_rfl
theorem T.fu115 : funcT Try.prog 115 = true := by kernel_rfl
theorem T.sz116 : szT Try.prog 116 = some 1 := by kernel_rfl
theorem T.by116 : byT Try.prog 116 = some 8 := by kernel_rfl
theorem T.ag116 : aggT Try.prog 116 = some false := by kernel_rfl
theorem T.ze116 : zeroT Try.prog 116 = some [.nilF] := by kernel_rfl
theorem T.el116 : elT Try.prog 116 = none := by kernel_rfl
theorem T.fu116 : funcT Try.prog 116 = true := by kernel_rfl
theorem T.sz117 : szT Try.prog 117 = some 1 := by kernel_rfl
theorem T.by117 : byT Try.prog 117 = some 8 := by kernel_rfl
theorem T.ag117 : aggT Try.prog 117 = some false := by kernel_rfl
theorem T.ze117 : zeroT Try.prog 117 = some [.nilF] := by kernel_rfl
theorem T.el117 : elT Try.prog 117 = none := by kernel_rfl
theorem T.fu117 : funcT Try.prog 117 = true := by kernel_rfl
theorem T.sz118 : szT Try.prog 118 = some 1 := by kernel_rfl
theorem T.by118 : byT Try.prog 118 = some 8 := by kernel_rfl
theorem T.ag118 : aggT Try.prog 118 = some false := by kernel_rfl
theorem T.ze118 : zeroT Try.prog 118 = some [.nilF] := by kernel_rfl
theorem T.el118 : elT Try.prog 118 = none := by kernel_rfl
theorem T.fu118 : funcT Try.prog 118 = true := by kernel_rfl
theorem T.sz119 : szT Try.prog 119 = some 1 := by kernel_rfl
theorem T.by119 : byT Try.prog 119 = some 8 := by kernel_rfl
theorem T.ag119 : aggT Try.prog 119 = some false := by kernel_rfl
theorem T.ze119 : zeroT Try.prog 119 = some [.nilF] := by kernel_rfl
theorem T.el119 : elT Try.prog 119 = none := by kernel_rfl
theorem T.fu119 : funcT Try.prog 119 = true := by kernel_rfl
theorem T.sz120 : szT Try.prog 120 = some 1 := by kernel_rfl
theorem T.by120 : byT Try.prog 120 = some 8 := by kernel_rfl
theorem T.ag120 : aggT Try.prog 120 = some false := by kernel_rfl
theorem T.ze120 : zeroT Try.prog 120 = some [.nilF] := by kernel_rfl
theorem T.el120 : elT Try.prog 120 = none := by kernel_rfl
theorem T.fu120 : funcT Try.prog 120 = true := by kernel_rfl
theorem T.sz121 : szT Try.prog 121 = some 1 := by kernel_rfl
theorem T.by121 : byT Try.prog 121 = some 8 := by kernel_rfl
theorem T.ag121 : aggT Try.prog 121 = some false := by kernel_rfl
theorem T.ze121 : zeroT Try.prog 121 = some [.nilF] := by kernel_rfl
theorem T.el121 : elT Try.prog 121 = none := by kernel_rfl
theorem T.fu121 : funcT Try.prog 121 = true := by kernel_rfl
theorem T.sz122 : szT Try.prog 122 = some 1 := by kernel_rfl
theorem T.by122 : byT Try.prog 122 = some 8 := by kernel_rfl
theorem T.ag122 : aggT Try.prog 122 = some false := by kernel_rfl
theorem T.ze122 : zeroT Try.prog 122 = some [.nilF] := by kernel_rfl
theorem T.el122 : elT Try.prog 122 = none := by kernel_rfl
theorem T.fu122 : funcT Try.prog 122 = true := by kernel_rfl
theorem T.sz123 : szT Try.prog 123 = some 1 := by kernel_rfl
theorem T.by123 : byT Try.prog 123 = some 8 := by kernel_rfl
theorem T.ag123 : aggT Try.prog 123 = some false := by kernel_rfl
theorem T.ze123 : zeroT Try.prog 123 = some [.nilF] := by kernel_rfl
theorem T.el123 : elT Try.prog 123 = none := by kernel_rfl
theorem T.fu123 : funcT Try.prog 123 = true := by kernel_rfl
theorem T.sz124 : szT Try.prog 124 = some 4 := by kernel_rfl
theorem T.by124 : byT Try.prog 124 = some 32 := by kernel_rfl
theorem T.ag124 : aggT Try.prog 124 = some true := by kernel_rfl
theorem T.ze124 : zeroT Try.prog 124 = some [(.int .i64 0), (.int .i64 0), (.int .i64 0), (.int .i64 0)] := by kernel_rfl
theorem T.el124 : elT Try.prog 124 = none := by kernel_rfl
theorem T.ar124 : arT Try.prog 124 = some (4, 3, 1) := by kernel_rfl
theorem T.pl124 : plT Try.prog 124 = some none := by kernel_rfl
theorem T.sz125 : szT Try.prog 125 = some 4 := by kernel_rfl
theorem T.by125 : byT Try.prog 125 = some 32 := by kernel_rfl
theorem T.ag125 : aggT Try.prog 125 = some true := by kernel_rfl
theorem T.ze125 : zeroT Try.prog 125 = some [(.int .i64 0), (.int .i64 0), (.int .i64 0), (.int .i64 0)] := by kernel_rfl
theorem T.el125 : elT Try.prog 125 = none := by kernel_rfl
theorem T.ar125 : arT Try.prog 125 = some (4, 3, 1) := by kernel_rfl
theorem T.pl125 : plT Try.prog 125 = some none := by kernel_rfl
theorem T.sz126 : szT Try.prog 126 = some 1 := by kernel_rfl
theorem T.by126 : byT Try.prog 126 = some 8 := by kernel_rfl
theorem T.ag126 : aggT Try.prog 126 = some false := by kernel_rfl
theorem T.ze126 : zeroT Try.prog 126 = some [.nilF] := by kernel_rfl
theorem T.el126 : elT Try.prog 126 = none := by kernel_rfl
theorem T.fu126 : funcT Try.prog 126 = true := by kernel_rfl
theorem T.sz127 : szT Try.prog 127 = some 1 := by kernel_rfl
theorem T.by127 : byT Try.prog 127 = some 8 := by kernel_rfl
theorem T.ag127 : aggT Try.prog 127 = some false := by kernel_rfl
theorem T.ze127 : zeroT Try.prog 127 = some [.nilF] := by kernel_rfl
theorem T.el127 : elT Try.prog 127 = none := by kernel_rfl
theorem T.fu127 : funcT Try.prog 127 = true := by kernel_rfl
theorem T.sz128 : szT Try.prog 128 = some 1 := by kernel_rfl
theorem T.by128 : byT Try.prog 128 = some 8 := by kernel_rfl
theorem T.ag128 : aggT Try.prog 128 = some false := by kernel_rfl
theorem T.ze128 : zeroT Try.prog 128 = some [.nilF] := by kernel_rfl
theorem T.el128 : elT Try.prog 128 = none := by kernel_rfl
theorem T.fu128 : funcT Try.prog 128 = true := by kernel_rfl
theorem T.sz129 : szT Try.prog 129 = some 1 := by kernel_rfl
theorem T.by129 : byT Try.prog 129 = some 8 := by kernel_rfl
theorem T.ag129 : aggT Try.prog 129 = some false := by kernel_rfl
theorem T.ze129 : zeroT Try.prog 129 = some [.nilF] := by kernel_rfl
theorem T.el129 : elT Try.prog 129 = none := by kernel_rfl
theorem T.fu129 : funcT Try.prog 129 = true := by kernel_rfl
theorem T.sz130 : szT Try.prog 130 = some 1 := by kernel_rfl
theorem T.by130 : byT Try.prog 130 = some 8 := by kernel_rfl
theorem T.ag130 : aggT Try.prog 130 = some false := by kernel_rfl
theorem T.ze130 : zeroT Try.prog 130 = some [.nilF] := by kernel_rfl
theorem T.el130 : elT Try.prog 130 = none := by kernel_rfl
theorem T.fu130 : funcT Try.prog 130 = true := by kernel_rfl
theorem T.sz131 : szT Try.prog 131 = some 1 := by kernel_rfl
theorem T.by131 : byT Try.prog 131 = some 8 := by kernel_rfl
theorem T.ag131 : aggT Try.prog 131 = some false := by kernel_rfl
theorem T.ze131 : zeroT Try.prog 131 = some [.nilF] := by kernel_rfl
theorem T.el131 : elT Try.prog 131 = none := by kernel_rfl
theorem T.fu131 : funcT Try.prog 131 = true := by kernel_rfl
theorem T.sz132 : szT Try.prog 132 = some 1 := by kernel_rfl
theorem T.by132 : byT Try.prog 132 = some 8 := by kernel_rfl
theorem T.ag132 : aggT Try.prog 132 = some false := by kernel_rfl
theorem T.ze132 : zeroT Try.prog 132 = some [.nilF] := by kernel_rfl
theorem T.el132 : elT Try.prog 132 = none := by kernel_rfl
theorem T.fu132 : funcT Try.prog 132 = true := by kernel_rfl
theorem T.sz133 : szT Try.prog 133 = some 1 := by kernel_rfl
theorem T.by133 : byT Try.prog 133 = some 8 := by kernel_rfl
theorem T.ag133 : aggT Try.prog 133 = some false := by kernel_rfl
theorem T.ze133 : zeroT Try.prog 133 = some [.nilF] := by kernel_rfl
theorem T.el133 : elT Try.prog 133 = none := by kernel_rfl
theorem T.fu133 : funcT Try.prog 133 = true := by kernel_rfl
theorem T.sz134 : szT Try.prog 134 = some 1 := by kernel_rfl
theorem T.by134 : byT Try.prog 134 = some 8 := by kernel_rfl
theorem T.ag134 : aggT Try.prog 134 = some false := by kernel_rfl
theorem T.ze134 : zeroT Try.prog 134 = some [.nilF] := by kernel_rfl
theorem T.el134 : elT Try.prog 134 = none := by kernel_rfl
theorem T.fu134 : funcT Try.prog 134 = true := by kernel_rfl
theorem T.sz135 : szT Try.prog 135 = some 1 := by kernel_rfl
theorem T.by135 : byT Try.prog 135 = some 8 := by kernel_rfl
theorem T.ag135 : aggT Try.prog 135 = some false := by kernel_rfl
theorem T.ze135 : zeroT Try.prog 135 = some [.nilF] := by kernel_rfl
theorem T.el135 : elT Try.prog 135 = none := by kernel_rfl
theorem T.fu135 : funcT Try.prog 135 = true := by kernel_rfl
theorem T.sz136 : szT Try.prog 136 = some 1 := by kernel_rfl
theorem T.by136 : byT Try.prog 136 = some 8 := by kernel_rfl
theorem T.ag136 : aggT Try.prog 136 = some false := by kernel_rfl
theorem T.ze136 : zeroT Try.prog 136 = some [.nilF] := by kernel_rfl
theorem T.el136 : elT Try.prog 136 = none := by kernel_rfl
theorem T.fu136 : funcT Try.prog 136 = true := by kernel_rfl
theorem T.sz137 : szT Try.prog 137 = some 1 := by kernel_rfl
theorem T.by137 : byT Try.prog 137 = some 8 := by kernel_rfl
theorem T.ag137 : aggT Try.prog 137 = some false := by kernel_rfl
theorem T.ze137 : zeroT Try.prog 137 = some [.nilF] := by kernel_rfl
theorem T.el137 : elT Try.prog 137 = none := by kernel_rfl
theorem T.fu137 : funcT Try.prog 137 = true := by kernel_rfl
theorem T.sz138 : szT Try.prog 138 = some 1 := by kernel_rfl
theorem T.by138 : byT Try.prog 138 = some 8 := by kernel_rfl
theorem T.ag138 : aggT Try.prog 138 = some false := by kernel_rfl
theorem T.ze138 : zeroT Try.prog 138 = some [.nilF] := by kernel_rfl
theorem T.el138 : elT Try.prog 138 = none := by kernel_rfl
theorem T.fu138 : funcT Try.prog 138 = true := by kernel_rfl
theorem T.sz139 : szT Try.prog 139 = some 1 := by kernel_rfl
theorem T.by139 : byT Try.prog 139 = some 8 := by kernel_rfl
theorem T.ag139 : aggT Try.prog 139 = some false := by kernel_rfl
theorem T.ze139 : zeroT Try.prog 139 = some [.nilF] := by kernel_rfl
theorem T.el139 : elT Try.prog 139 = none := by kernel_rfl
theorem T.fu139 : funcT Try.prog 139 = true := by kernel_rfl
theorem T.sz140 : szT Try.prog 140 = some 1 := by kernel_rfl
theorem T.by140 : byT Try.prog 140 = some 8 := by kernel_rfl
theorem T.ag140 : aggT Try.prog 140 = some false := by kernel_rfl
theorem T.ze140 : zeroT Try.prog 140 = some [.nilF] := by kernel_rfl
theorem T.el140 : elT Try.prog 140 = none := by kernel_rfl
theorem T.fu140 : funcT Try.prog 140 = true := by kernel_rfl
theorem T.sz141 : szT Try.prog 141 = some 1 := by kernel_rfl
theorem T.by141 : byT Try.prog 141 = some 8 := by kernel_rfl
theorem T.ag141 : aggT Try.prog 141 = some false := by kernel_rfl
theorem T.ze141 : zeroT Try.prog 141 = some [.nilF] := by kernel_rfl
theorem T.el141 : elT Try.prog 141 = none := by kernel_rfl
theorem T.fu141 : funcT Try.prog 141 = true := by kernel_rfl
theorem T.sz142 : szT Try.prog 142 = some 1 := by kernel_rfl
theorem T.by142 : byT Try.prog 142 = some 8 := by kernel_rfl
theorem T.ag142 : aggT Try.prog 142 = some false := by kernel_rfl
theorem T.ze142 : zeroT Try.prog 142 = some [.nilF] := by kernel_rfl
theorem T.el142 : elT Try.prog 142 = none := by kernel_rfl
theorem T.fu142 : funcT Try.prog 142 = true := by kernel_rfl
theorem T.sz143 : szT Try.prog 143 = some 1 := by kernel_rfl
theorem T.by143 : byT Try.prog 143 = some 8 := by kernel_rfl
theorem T.ag143 : aggT Try.prog 143 = some false := by kernel_rfl
theorem T.ze143 : zeroT Try.prog 143 = some [.nilF] := by kernel_rfl
theorem T.el143 : elT Try.prog 143 = none := by kernel_rfl
theorem T.fu143 : funcT Try.prog 143 = true := by kernel_rfl
theorem T.sz144 : szT Try.prog 144 = some 1 := by kernel_rfl
theorem T.by144 : byT Try.prog 144 = some 8 := by kernel_rfl
theorem T.ag144 : aggT Try.prog 144 = some false := by kernel_rfl
theorem T.ze144 : zeroT Try.prog 144 = some [.nilF] := by kernel_rfl
theorem T.el144 : elT Try.prog 144 = none := by kernel_rfl
theorem T.fu144 : funcT Try.prog 144 = true := by kernel_rfl
theorem T.sz145 : szT Try.prog 145 = some 1 := by kernel_rfl
theorem T.by145 : byT Try.prog 145 = some 8 := by kernel_rfl
theorem T.ag145 : aggT Try.prog 145 = some false := by kernel_rfl
theorem T.ze145 : zeroT Try.prog 145 = some [.nilF] := by kernel_rfl
theorem T.el145 : elT Try.prog 145 = none := by kernel_rfl
theorem T.fu145 : funcT Try.prog 145 = true := by kernel_rfl
theorem T.sz146 : szT Try.prog 146 = some 1 := by kernel_rfl
theorem T.by146 : byT Try.prog 146 = some 8 := by kernel_rfl
theorem T.ag146 : aggT Try.prog 146 = some false := by kernel_rfl
theorem T.ze146 : zeroT Try.prog 146 = some [.nilF] := by kernel_rfl
theorem T.el146 : elT Try.prog 146 = none := by kernel_rfl
theorem T.fu146 : funcT Try.prog 146 = true := by kernel_rfl
theorem T.sz147 : szT Try.prog 147 = some 5 := by kernel_rfl
theorem T.by147 : byT Try.prog 147 = some 40 := by kernel_rfl
theorem T.ag147 : aggT Try.prog 147 = some true := by kernel_rfl
theorem T.ze147 : zeroT Try.prog 147 = some [(.int .i64 0), (.int .i64 0), (.int .i64 0), (.int .i64 0), (.int .i64 0)] := by kernel_rfl
theorem T.el147 : elT Try.prog 147 = none := by kernel_rfl
theorem T.ar147 : arT Try.prog 147 = some (5, 3, 1) := by kernel_rfl
theorem T.pl147 : plT Try.prog 147 = some none := by kernel_rfl
theorem T.sz148 : szT Try.prog 148 = some 1 := by kernel_rfl
theorem T.by148 : byT Try.prog 148 = some 8 := by kernel_rfl
theorem T.ag148 : aggT Try.prog 148 = some false := by kernel_rfl
theorem T.ze148 : zeroT Try.prog 148 = some [.nilF] := by kernel_rfl
theorem T.el148 : elT Try.prog 148 = none := by kernel_rfl
theorem T.fu148 : funcT Try.prog 148 = true := by kernel_rfl
theorem T.sz149 : szT Try.prog 149 = some 1 := by kernel_rfl
theorem T.by149 : byT Try.prog 149 = some 8 := by kernel_rfl
theorem T.ag149 : aggT Try.prog 149 = some false := by kernel_rfl
theorem T.ze149 : zeroT Try.prog 149 = some [.nilF] := by kernel_rfl
theorem T.el149 : elT Try.prog 149 = none := by kernel_rfl
theorem T.fu149 : funcT Try.prog 149 = true := by kernel_rfl
theorem T.sz151 : szT Try.prog 151 = some 1 := by kernel_rfl
theorem T.by151 : byT Try.prog 151 = some 8 := by kernel_rfl
theorem T.ag151 : aggT Try.prog 151 = some false := by kernel_rfl
theorem T.ze151 : zeroT Try.prog 151 = some [.nilF] := by kernel_rfl
theorem T.el151 : elT Try.prog 151 = none := by kernel_rfl
theorem T.fu151 : funcT Try.prog 151 = true := by kernel_rfl
theorem T.ik152 : ikT Try.prog 152 = some .u64 := by kernel_rfl
theorem T.sz152 : szT Try.prog 152 = some 1 := by kernel_rfl
theorem T.by152 : byT Try.prog 152 = some 8 := by kernel_rfl
theorem T.ag152 : aggT Try.prog 152 = some false := by kernel_rfl
theorem T.ze152 : zeroT Try.prog 152 = some [(.int .u64 0)] := by kernel_rfl
theorem T.el152 : elT Try.prog 152 = none := by kernel_rfl
theorem T.bo152 : boolT Try.prog 152 = false := by kernel_rfl
theorem T.sz153 : szT Try.prog 153 = some 1 := by kernel_rfl
theorem T.by153 : byT Try.prog 153 = some 8 := by kernel_rfl
theorem T.ag153 : aggT Try.prog 153 = some false := by kernel_rfl
theorem T.ze153 : zeroT Try.prog 153 = some [.nilF] := by kernel_rfl
theorem T.el153 : elT Try.prog 153 = none := by kernel_rfl
theorem T.fu153 : funcT Try.prog 153 = true := by kernel_rfl
theorem T.sz154 : szT Try.prog 154 = some 1 := by kernel_rfl
theorem T.by154 : byT Try.prog 154 = some 8 := by kernel_rfl
theorem T.ag154 : aggT Try.prog 154 = some false := by kernel_rfl
theorem T.ze154 : zeroT Try.prog 154 = some [.nilF] := by kernel_rfl
theorem T.el154 : elT Try.prog 154 = none := by kernel_rfl
theorem T.fu154 : funcT Try.prog 154 = true := by kernel_rfl
theorem T.sz155 : szT Try.prog 155 = some 1 := by kernel_rfl
theorem T.by155 : byT Try.prog 155 = some 8 := by kernel_rfl
theorem T.ag155 : aggT Try.prog 155 = some false := by kernel_rfl
theorem T.ze155 : zeroT Try.prog 155 = some [.nilF] := by kernel_rfl
theorem T.el155 : elT Try.prog 155 = none := by kernel_rfl
theorem T.fu155 : funcT Try.prog 155 = true := by kernel_rfl
theorem T.sz156 : szT Try.prog 156 = some 1 := by kernel_rfl
theorem T.by156 : byT Try.prog 156 = some 8 := by kernel_rfl
theorem T.ag156 : aggT Try.prog 156 = some false := by kernel_rfl
theorem T.ze156 : zeroT Try.prog 156 = some [.nilF] := by kernel_rfl
theorem T.el156 : elT Try.prog 156 = none := by kernel_rfl
theorem T.fu156 : funcT Try.prog 156 = true := by kernel_rfl
theorem T.sz157 : szT Try.prog 157 = some 2 := by kernel_rfl
theorem T.by157 : byT Try.prog 157 = some 16 := by kernel_rfl
theorem T.ag157 : aggT Try.prog 157 = some true := by kernel_rfl
theorem T.ze157 : zeroT Try.prog 157 = some [(.int .i64 0), (.int .i64 0)] := by kernel_rfl
theorem T.el157 : elT Try.prog 157 = none := by kernel_rfl
theorem T.fl157_0 : fldT Try.prog 157 0 = some (0, 3) := by kernel_rfl
theorem T.fl157_1 : fldT Try.prog 157 1 = some (1, 3) := by kernel_rfl
theorem T.pl157 : plT Try.prog 157 = some (some [(0, 1), (1, 1)]) := by kernel_rfl
theorem T.fi157 : flatI Try.prog 157 = true := by kernel_rfl
theorem T.fn157 : flatN Try.prog 157 = 2 := by kernel_rfl
theorem T.sz158 : szT Try.prog 158 = some 2 := by kernel_rfl
theorem T.by158 : byT Try.prog 158 = some 16 := by kernel_rfl
theorem T.ag158 : aggT Try.prog 158 = some true := by kernel_rfl
theorem T.ze158 : zeroT Try.prog 158 = some [(.int .i64 0), (.int .i64 0)] := by kernel_rfl
theorem T.el158 : elT Try.prog 158 = none := by kernel_rfl
theorem T.fl158_0 : fldT Try.prog 158 0 = some (0, 3) := by kernel_rfl
theorem T.fl158_1 : fldT Try.prog 158 1 = some (1, 3) := by kernel_rfl
theorem T.pl158 : plT Try.prog 158 = some (some [(0, 1), (1, 1)]) := by kernel_rfl
theorem T.fi158 : flatI Try.prog 158 = true := by kernel_rfl
theorem T.fn158 : flatN Try.prog 158 = 2 := by kernel_rfl
theorem T.sz159 : szT Try.prog 159 = some 4 := by kernel_rfl
theorem T.by159 : byT Try.prog 159 = some 32 := by kernel_rfl
theorem T.ag159 : aggT Try.prog 159 = some true := by kernel_rfl
theorem T.ze159 : zeroT Try.prog 159 = some [(.int .i64 0), (.int .i64 0), (.int .i64 0), (.int .i64 0)] := by kernel_rfl
theorem T.el159 : elT Try.prog 159 = none := by kernel_rfl
theorem T.fl159_0 : fldT Try.prog 159 0 = some (0, 158) := by kernel_rfl
theorem T.fl159_1 : fldT Try.prog 159 1 = some (2, 158) := by kernel_rfl
theorem T.pl159 : plT Try.prog 159 = some (some [(0, 2), (2, 2)]) := by kernel_rfl
theorem T.fi159 : flatI Try.prog 159 = true := by kernel_rfl
theorem T.fn159 : flatN Try.prog 159 = 4 := by kernel_rfl
theorem T.sz160 : szT Try.prog 160 = some 4 := by kernel_rfl
theorem T.by160 : byT Try.prog 160 = some 32 := by kernel_rfl
theorem T.ag160 : aggT Try.prog 160 = some true := by kernel_rfl
theorem T.ze160 : zeroT Try.prog 160 = some [(.int .i64 0), (.int .i64 0), (.int .i64 0), (.int .i64 0)] := by kernel_rfl
theorem T.el160 : elT Try.prog 160 = none := by kernel_rfl
theorem T.fl160_0 : fldT Try.prog 160 0 = some (0, 158) := by kernel_rfl
theorem T.fl160_1 : fldT Try.prog 160 1 = some (2, 158) := by kernel_rfl
theorem T.pl160 : plT Try.prog 160 = some (some [(0, 2), (2, 2)]) := by kernel_rfl
theorem T.fi160 : flatI Try.prog 160 = true := by kernel_rfl
theorem T.fn160 : flatN Try.prog 160 = 4 := by kernel_rfl
theorem T.sz161 : szT Try.prog 161 = some 1 := by kernel_rfl
theorem T.by161 : byT Try.prog 161 = some 8 := by kernel_rfl
theorem T.ag161 : aggT Try.prog 161 = some false := by kernel_rfl
theorem T.ze161 : zeroT Try.prog 161 = some [.nilF] := by kernel_rfl
theorem T.el161 : elT Try.prog 161 = none := by kernel_rfl
theorem T.fu161 : funcT Try.prog 161 = true := by kernel_rfl
theorem T.sz162 : szT Try.prog 162 = some 1 := by kernel_rfl
theorem T.by162 : byT Try.prog 162 = some 8 := by kernel_rfl
theorem T.ag162 : aggT Try.prog 162 = some false := by kernel_rfl
theorem T.ze162 : zeroT Try.prog 162 = some [.nilF] := by kernel_rfl
theorem T.el162 : elT Try.prog 162 = none := by kernel_rfl
theorem T.fu162 : funcT Try.prog 162 = true := by kernel_rfl
theorem T.sz163 : szT Try.prog 163 = some 1 := by kernel_rfl
theorem T.by163 : byT Try.prog 163 = some 8 := by kernel_rfl
theorem T.ag163 : aggT Try.prog 163 = some false := by kernel_rfl
theorem T.ze163 : zeroT Try.prog 163 = some [.nilF] := by kernel_rfl
theorem T.el163 : elT Try.prog 163 = none := by kernel_rfl
theorem T.fu163 : funcT Try.prog 163 = true := by kernel_rfl
theorem T.sz164 : szT Try.prog 164 = some 1 := by kernel_rfl
theorem T.by164 : byT Try.prog 164 = some 8 := by kernel_rfl
theorem T.ag164 : aggT Try.prog 164 = some false := by kernel_rfl
theorem T.ze164 : zeroT Try.prog 164 = some [.nilF] := by kernel_rfl
theorem T.el164 : elT Try.prog 164 = none := by kernel_rfl
theorem T.fu164 : funcT Try.prog 164 = true := by kernel_rfl
theorem T.sz165 : szT Try.prog 165 = some 1 := by kernel_rfl
theorem T.by165 : byT Try.prog 165 = some 8 := by kernel_rfl
theorem T.ag165 : aggT Try.prog 165 = some false := by kernel_rfl
theorem T.ze165 : zeroT Try.prog 165 = some [.nilF] := by kernel_rfl
theorem T.el165 : elT Try.prog 165 = none := by kernel_rfl
theorem T.fu165 : funcT Try.prog 165 = true := by kernel_rfl
theorem T.sz166 : szT Try.prog 166 = some 1 := by kernel_rfl
theorem T.by166 : byT Try.prog 166 = some 8 := by kernel_rfl
theorem T.ag166 : aggT Try.prog 166 = some false := by kernel_rfl
theorem T.ze166 : zeroT Try.prog 166 = some [.nilF] := by kernel_rfl
theorem T.el166 : elT Try.prog 166 = none := by kernel_rfl
theorem T.fu166 : funcT Try.prog 166 = true := by kernel_rfl
theorem T.sz167 : szT Try.prog 167 = some 1 := by kernel_rfl
theorem T.by167 : byT Try.prog 167 = some 8 := by kernel_rfl
theorem T.ag167 : aggT Try.prog 167 = some false := by kernel_rfl
theorem T.ze167 : zeroT Try.prog 167 = some [.nilF] := by kernel_rfl
theorem T.el167 : elT Try.prog 167 = none := by kernel_rfl
theorem T.fu167 : funcT Try.prog 167 = true := by kernel_rfl
theorem T.sz168 : szT Try.prog 168 = some 4 := by kernel_rfl
theorem T.by168 : byT Try.prog 168 = some 40 := by kernel_rfl
theorem T.ag168 : aggT Try.prog 168 = some true := by kernel_rfl
theorem T.ze168 : zeroT Try.prog 168 = some [.nilP, .nilP, .nilP, .any] := by kernel_rfl
theorem T.el168 : elT Try.prog 168 = none := by kernel_rfl
theorem T.fl168_0 : fldT Try.prog 168 0 = some (0, 17) := by kernel_rfl
theorem T.fl168_1 : fldT Try.prog 168 1 = some (1, 17) := by kernel_rfl
theorem T.fl168_2 : fldT Try.prog 168 2 = some (2, 17) := by kernel_rfl
theorem T.fl168_3 : fldT Try.prog 168 3 = some (3, 9) := by kernel_rfl
theorem T.pl168 : plT Try.prog 168 = some (some [(0, 1), (1, 1), (2, 1), (3, 1)]) := by kernel_rfl
theorem T.sz169 : szT Try.prog 169 = some 4 := by kernel_rfl
theorem T.by169 : byT Try.prog 169 = some 40 := by kernel_rfl
theorem T.ag169 : aggT Try.prog 169 = some true := by kernel_rfl
theorem T.ze169 : zeroT Try.prog 169 = some [.nilP, .nilP, .nilP, .any] := by kernel_rfl
theorem T.el169 : elT Try.prog 169 = none := by kernel_rfl
theorem T.fl169_0 : fldT Try.prog 169 0 = some (0, 17) := by kernel_rfl
theorem T.fl169_1 : fldT Try.prog 169 1 = some (1, 17) := by kernel_rfl
theorem T.fl169_2 : fldT Try.prog 169 2 = some (2, 17) := by kernel_rfl
theorem T.fl169_3 : fldT Try.prog 169 3 = some (3, 9) := by kernel_rfl
theorem T.pl169 : plT Try.prog 169 = some (some [(0, 1), (1, 1), (2, 1), (3, 1)]) := by kernel_rfl
theorem T.sz170 : szT Try.prog 170 = some 0 := by kernel_rfl
theorem T.by170 : byT Try.prog 170 = some 0 := by kernel_rfl
theorem T.ag170 : aggT Try.prog 170 = some true := by kernel_rfl
theorem T.ze170 : zeroT Try.prog 170 = some [] := by kernel_rfl
theorem T.el170 : elT Try.prog 170 = none := by kernel_rfl
theorem T.ar170 : arT Try.prog 170 = some (0, 16, 1) := by kernel_rfl
theorem T.pl170 : plT Try.prog 170 = some none := by kernel_rfl
theorem T.sz171 : szT Try.prog 171 = some 0 := by kernel_rfl
theorem T.by171 : byT Try.prog 171 = some 0 := by kernel_rfl
theorem T.ag171 : aggT Try.prog 171 = some true := by kernel_rfl
theorem T.ze171 : zeroT Try.prog 171 = some [] := by kernel_rfl
theorem T.el171 : elT Try.prog 171 = none := by kernel_rfl
theorem T.pl171 : plT Try.prog 171 = some (some [(0, 0)]) := by kernel_rfl
theorem T.sz172 : szT Try.prog 172 = some 0 := by kernel_rfl
theorem T.by172 : byT Try.prog 172 = some 0 := by kernel_rfl
theorem T.ag172 : aggT Try.prog 172 = some true := by kernel_rfl
theorem T.ze172 : zeroT Try.prog 172 = some [] := by kernel_rfl
theorem T.el172 : elT Try.prog 172 = none := by kernel_rfl
theorem T.pl172 : plT Try.prog 172 = some (some [(0, 0)]) := by kernel_rfl
theorem T.sz173 : szT Try.prog 173 = some 1 := by kernel_rfl
theorem T.by173 : byT Try.prog 173 = some 8 := by kernel_rfl
theorem T.ag173 : aggT Try.prog 173 = some false := by kernel_rfl
theorem T.ze173 : zeroT Try.prog 173 = some [.nilF] := by kernel_rfl
theorem T.el173 : elT Try.prog 173 = none := by kernel_rfl
theorem T.fu173 : funcT Try.prog 173 = true := by kernel_rfl
theorem T.ik174 : ikT Try.prog 174 = some .u8 := by kernel_rfl
theorem T.sz174 : szT Try.prog 174 = some 1 := by kernel_rfl
theorem T.by174 : byT Try.prog 174 = some 1 := by kernel_rfl
theorem T.ag174 : aggT Try.prog 174 = some false := by kernel_rfl
theorem T.ze174 : zeroT Try.prog 174 = some [(.int .u8 0)] := by kernel_rfl
theorem T.el174 : elT Try.prog 174 = none := by kernel_rfl
theorem T.bo174 : boolT Try.prog 174 = false := by kernel_rfl
theorem T.ik175 : ikT Try.prog 175 = some .u8 := by kernel_rfl
theorem T.sz175 : szT Try.prog 175 = some 1 := by kernel_rfl
theorem T.by175 : byT Try.prog 175 = some 1 := by kernel_rfl
theorem T.ag175 : aggT Try.prog 175 = some false := by kernel_rfl
theorem T.ze175 : zeroT Try.prog 175 = some [(.int .u8 0)] := by kernel_rfl
theorem T.el175 : elT Try.prog 175 = none := by kernel_rfl
theorem T.bo175 : boolT Try.prog 175 = false := by kernel_rfl
theorem T.sz176 : szT Try.prog 176 = some 1 := by kernel_rfl
theorem T.by176 : byT Try.prog 176 = some 8 := by kernel_rfl
theorem T.ag176 : aggT Try.prog 176 = some false := by kernel_rfl
theorem T.ze176 : zeroT Try.prog 176 = some [.nilF] := by kernel_rfl
theorem T.el176 : elT Try.prog 176 = none := by kernel_rfl
theorem T.fu176 : funcT Try.prog 176 = true := by kernel_rfl
theorem T.sz177 : szT Try.prog 177 = some 1 := by kernel_rfl
theorem T.by177 : byT Try.prog 177 = some 8 := by kernel_rfl
theorem T.ag177 : aggT Try.prog 177 = some false := by kernel_rfl
theorem T.ze177 : zeroT Try.prog 177 = some [.nilP] := by kernel_rfl
theorem T.el177 : elT Try.prog 177 = none := by kernel_rfl
theorem T.sz180 : szT Try.prog 180 = some 11 := by kernel_rfl
theorem T.by180 : byT Try.prog 180 = some 48 := by kernel_rfl
theorem T.ag180 : aggT Try.prog 180 = some true := by kernel_rfl
theorem T.ze180 : zeroT Try.prog 180 = some [(.int .u64 0), (.int .u64 0), (.int .u32 0), (.int .u8 0), (.int .u8 0), (.int .u8 0), (.int .u8 0), .nilF, .nilP, (.int .i32 0), (.int .i32 0)] := by kernel_rfl
theorem T.el180 : elT Try.prog 180 = none := by kernel_rfl
theorem T.fl180_0 : fldT Try.prog 180 0 = some (0, 12) := by kernel_rfl
theorem T.fl180_1 : fldT Try.prog 180 1 = some (1, 12) := by kernel_rfl
theorem T.fl180_2 : fldT Try.prog 180 2 = some (2, 150) := by kernel_rfl
theorem T.fl180_3 : fldT Try.prog 180 3 = some (3, 174) := by kernel_rfl
theorem T.fl180_4 : fldT Try.prog 180 4 = some (4, 5) := by kernel_rfl
theorem T.fl180_5 : fldT Try.prog 180 5 = some (5, 5) := by kernel_rfl
theorem T.fl180_6 : fldT Try.prog 180 6 = some (6, 175) := by kernel_rfl
theorem T.fl180_7 : fldT Try.prog 180 7 = some (7, 176) := by kernel_rfl
theorem T.fl180_8 : fldT Try.prog 180 8 = some (8, 177) := by kernel_rfl
theorem T.fl180_9 : fldT Try.prog 180 9 = some (9, 178) := by kernel_rfl
theorem T.fl180_10 : fldT Try.prog 180 10 = some (10, 179) := by kernel_rfl
theorem T.pl180 : plT Try.prog 180 = some (some [(0, 1), (1, 1), (2, 1), (3, 1), (4, 1), (5, 1), (6, 1), (7, 1), (8, 1), (9, 1), (10, 1)]) := by kernel_rfl
theorem T.sz181 : szT Try.prog 181 = some 11 := by kernel_rfl
theorem T.by181 : byT Try.prog 181 = some 48 := by kernel_rfl
theorem T.ag181 : aggT Try.prog 181 = some true := by kernel_rfl
theorem T.ze181 : zeroT Try.prog 181 = some [(.int .u64 0), (.int .u64 0), (.int .u32 0), (.int .u8 0), (.int .u8 0), (.int .u8 0), (.int .u8 0), .nilF, .nilP, (.int .i32 0), (.int .i32 0)] := by kernel_rfl
theorem T.el181 : elT Try.prog 181 = none := by kernel_rfl
theorem T.fl181_0 : fldT Try.prog 181 0 = some (0, 12) := by kernel_rfl
theorem T.fl181_1 : fldT Try.prog 181 1 = some (1, 12) := by kernel_rfl
theorem T.fl181_2 : fldT Try.prog 181 2 = some (2, 150) := by kernel_rfl
theorem T.fl181_3 : fldT Try.prog 181 3 = some (3, 174) := by kernel_rfl
theorem T.fl181_4 : fldT Try.prog 181 4 = some (4, 5) := by kernel_rfl
theorem T.fl181_5 : fldT Try.prog 181 5 = some (5, 5) := by kernel_rfl
theorem T.fl181_6 : fldT Try.prog 181 6 = some (6, 175) := by kernel_rfl
theorem T.fl181_7 : fldT Try.prog 181 7 = some (7, 176) := by kernel_rfl
theorem T.fl181_8 : fldT Try.prog 181 8 = some (8, 177) := by kernel_rfl
theorem T.fl181_9 : fldT Try.prog 181 9 = some (9, 178) := by kernel_rfl
theorem T.fl181_10 : fldT Try.prog 181 10 = some (10, 179) := by kernel_rfl
theorem T.pl181 : plT Try.prog 181 = some (some [(0, 1), (1, 1), (2, 1), (3, 1), (4, 1), (5, 1), (6, 1), (7, 1), (8, 1), (9, 1), (10, 1)]) := by kernel_rfl
attribute [go_sem] T.sz1 T.by1 T.ag1 T.ze1 T.el1 T.fu1 T.ik2 T.sz2 T.by2 T.ag2 T.ze2 T.el2 T.bo2 T.ik3 T.sz3 T.by3 T.ag3 T.ze3 T.el3 T.bo3 T.sz4 T.by4 T.ag4 T.ze4 T.el4 T.bo4 T.ik5 T.sz5 T.by5 T.ag5 T.ze5 T.el5 T.bo5 T.ik6 T.sz6 T.by6 T.ag6 T.ze6 T.el6 T.bo6
attribute [go_sem] T.ik12 T.sz12 T.by12 T.ag12 T.ze12 T.el12 T.bo12 T.sz15 T.by15 T.ag15 T.ze15 T.el15 T.sz16 T.by16 T.ag16 T.ze16 T.el16 T.sz17 T.by17 T.ag17 T.ze17 T.el17 T.sz18 T.by18 T.ag18 T.ze18 T.el18 T.fl18_0 T.pl18 T.sz19 T.by19 T.ag19 T.ze19 T.el19 T.fl19_0 T.pl19 T.sz22 T.by22 T.ag22 T.ze22
attribute [go_sem] T.el22 T.sz23 T.by23 T.ag23 T.ze23 T.el23 T.sz24 T.by24 T.ag24 T.ze24 T.el24 T.sz25 T.by25 T.ag25 T.ze25 T.el25 T.fl25_0 T.fl25_1 T.fl25_2 T.fl25_3 T.pl25 T.sz26 T.by26 T.ag26 T.ze26 T.el26 T.fl26_0 T.fl26_1 T.fl26_2 T.fl26_3 T.pl26 T.sz27 T.by27 T.ag27 T.ze27 T.el27 T.sz28 T.by28 T.ag28 T.ze28
attribute [go_sem] T.el28 T.sz29 T.by29 T.ag29 T.ze29 T.el29 T.fl29_0 T.fl29_1 T.fl29_2 T.fl29_3 T.pl29 T.sz30 T.by30 T.ag30 T.ze30 T.el30 T.fl30_0 T.fl30_1 T.fl30_2 T.fl30_3 T.pl30 T.sz31 T.by31 T.ag31 T.ze31 T.el31 T.fu31 T.sz32 T.by32 T.ag32 T.ze32 T.el32 T.fu32 T.ik33 T.sz33 T.by33 T.ag33 T.ze33 T.el33 T.bo33
attribute [go_sem] T.sz34 T.by34 T.ag34 T.ze34 T.el34 T.fu34 T.sz35 T.by35 T.ag35 T.ze35 T.el35 T.fu35 T.sz36 T.by36 T.ag36 T.ze36 T.el36 T.fu36 T.sz37 T.by37 T.ag37 T.ze37 T.el37 T.fu37 T.sz38 T.by38 T.ag38 T.ze38 T.el38 T.fu38 T.sz39 T.by39 T.ag39 T.ze39 T.el39 T.fu39 T.sz41 T.by41 T.ag41 T.ze41
attribute [go_sem] T.el41 T.fu41 T.sz42 T.by42 T.ag42 T.ze42 T.el42 T.fu42 T.sz43 T.by43 T.ag43 T.ze43 T.el43 T.fl43_0 T.fl43_1 T.fl43_2 T.pl43 T.fi43 T.fn43 T.sz44 T.by44 T.ag44 T.ze44 T.el44 T.fl44_0 T.fl44_1 T.fl44_2 T.pl44 T.fi44 T.fn44 T.sz45 T.by45 T.ag45 T.ze45 T.el45 T.fu45 T.sz46 T.by46 T.ag46 T.ze46
attribute [go_sem] T.el46 T.sz47 T.by47 T.ag47 T.ze47 T.el47 T.fl47_0 T.pl47 T.sz48 T.by48 T.ag48 T.ze48 T.el48 T.fl48_0 T.pl48 T.sz49 T.by49 T.ag49 T.ze49 T.el49 T.fu49 T.sz50 T.by50 T.ag50 T.ze50 T.el50 T.fu50 T.sz51 T.by51 T.ag51 T.ze51 T.el51 T.fu51 T.sz53 T.by53 T.ag53 T.ze53 T.el53 T.fu53 T.sz54
attribute [go_sem] T.by54 T.ag54 T.ze54 T.el54 T.fu54 T.sz55 T.by55 T.ag55 T.ze55 T.el55 T.fu55 T.sz56 T.by56 T.ag56 T.ze56 T.el56 T.fu56 T.sz57 T.by57 T.ag57 T.ze57 T.el57 T.fu57 T.sz59 T.by59 T.ag59 T.ze59 T.el59 T.fu59 T.sz60 T.by60 T.ag60 T.ze60 T.el60 T.fu60 T.sz61 T.by61 T.ag61 T.ze61 T.el61
attribute [go_sem] T.fl61_0 T.fl61_1 T.fl61_2 T.pl61 T.fi61 T.fn61 T.sz62 T.by62 T.ag62 T.ze62 T.el62 T.fl62_0 T.fl62_1 T.fl62_2 T.pl62 T.fi62 T.fn62 T.sz63 T.by63 T.ag63 T.ze63 T.el63 T.fu63 T.sz65 T.by65 T.ag65 T.ze65 T.el65 T.fu65 T.sz67 T.by67 T.ag67 T.ze67 T.el67 T.fu67 T.sz68 T.by68 T.ag68 T.ze68 T.el68
attribute [go_sem] T.fu68 T.sz69 T.by69 T.ag69 T.ze69 T.el69 T.fu69 T.sz70 T.by70 T.ag70 T.ze70 T.el70 T.fl70_0 T.fl70_1 T.fl70_2 T.pl70 T.fi70 T.fn70 T.sz71 T.by71 T.ag71 T.ze71 T.el71 T.fl71_0 T.fl71_1 T.fl71_2 T.pl71 T.fi71 T.fn71 T.sz72 T.by72 T.ag72 T.ze72 T.el72 T.fu72 T.sz73 T.by73 T.ag73 T.ze73 T.el73
attribute [go_sem] T.sz75 T.by75 T.ag75 T.ze75 T.el75 T.fu75 T.sz76 T.by76 T.ag76 T.ze76 T.el76 T.fu76 T.sz78 T.by78 T.ag78 T.ze78 T.el78 T.fu78 T.sz79 T.by79 T.ag79 T.ze79 T.el79 T.fl79_0 T.fl79_1 T.pl79 T.fi79 T.fn79 T.sz80 T.by80 T.ag80 T.ze80 T.el80 T.fl80_0 T.fl80_1 T.pl80 T.fi80 T.fn80 T.sz81 T.by81
attribute [go_sem] T.ag81 T.ze81 T.el81 T.fl81_0 T.fl81_1 T.fl81_2 T.fl81_3 T.fl81_4 T.pl81 T.fi81 T.fn81 T.sz82 T.by82 T.ag82 T.ze82 T.el82 T.fl82_0 T.fl82_1 T.fl82_2 T.fl82_3 T.fl82_4 T.pl82 T.fi82 T.fn82 T.sz83 T.by83 T.ag83 T.ze83 T.el83 T.fu83 T.sz84 T.by84 T.ag84 T.ze84 T.el84 T.fu84 T.sz85 T.by85 T.ag85 T.ze85
attribute [go_sem] T.el85 T.fu85 T.sz86 T.by86 T.ag86 T.ze86 T.el86 T.fu86 T.sz87 T.by87 T.ag87 T.ze87 T.el87 T.fu87 T.sz88 T.by88 T.ag88 T.ze88 T.el88 T.fl88_0 T.pl88 T.sz89 T.by89 T.ag89 T.ze89 T.el89 T.fl89_0 T.pl89 T.sz91 T.by91 T.ag91 T.ze91 T.el91 T.fu91 T.sz92 T.by92 T.ag92 T.ze92 T.el92 T.fu92
attribute [go_sem] T.sz93 T.by93 T.ag93 T.ze93 T.el93 T.fu93 T.sz95 T.by95 T.ag95 T.ze95 T.el95 T.fu95 T.sz96 T.by96 T.ag96 T.ze96 T.el96 T.fu96 T.sz98 T.by98 T.ag98 T.ze98 T.el98 T.fu98 T.sz99 T.by99 T.ag99 T.ze99 T.el99 T.fu99 T.sz100 T.by100 T.ag100 T.ze100 T.el100 T.fu100 T.sz101 T.by101 T.ag101 T.ze101
attribute [go_sem] T.el101 T.fu101 T.ik102 T.sz102 T.by102 T.ag102 T.ze102 T.el102 T.bo102 T.ik103 T.sz103 T.by103 T.ag103 T.ze103 T.el103 T.bo103 T.sz104 T.by104 T.ag104 T.ze104 T.el104 T.fu104 T.sz105 T.by105 T.ag105 T.ze105 T.el105 T.fu105 T.sz106 T.by106 T.ag106 T.ze106 T.el106 T.fu106 T.sz107 T.by107 T.ag107 T.ze107 T.el107 T.fu107
attribute [go_sem] T.sz108 T.by108 T.ag108 T.ze108 T.el108 T.fu108 T.sz109 T.by109 T.ag109 T.ze109 T.el109 T.sz110 T.by110 T.ag110 T.ze110 T.el110 T.ar110 T.pl110 T.sz111 T.by111 T.ag111 T.ze111 T.el111 T.ar111 T.pl111 T.sz112 T.by112 T.ag112 T.ze112 T.el112 T.fl112_0 T.fl112_1 T.fl112_2 T.pl112 T.sz113 T.by113 T.ag113 T.ze113 T.el113 T.fl113_0
attribute [go_sem] T.fl113_1 T.fl113_2 T.pl113 T.sz114 T.by114 T.ag114 T.ze114 T.el114 T.fu114 T.sz115 T.by115 T.ag115 T.ze115 T.el115 T.fu115 T.sz116 T.by116 T.ag116 T.ze116 T.el116 T.fu116 T.sz117 T.by117 T.ag117 T.ze117 T.el117 T.fu117 T.sz118 T.by118 T.ag118 T.ze118 T.el118 T.fu118 T.sz119 T.by119 T.ag119 T.ze119 T.el119 T.fu119 T.sz120
attribute [go_sem] T.by120 T.ag120 T.ze120 T.el120 T.fu120 T.sz121 T.by121 T.ag121 T.ze121 T.el121 T.fu121 T.sz122 T.by122 T.ag122 T.ze122 T.el122 T.fu122 T.sz123 T.by123 T.ag123 T.ze123 T.el123 T.fu123 T.sz124 T.by124 T.ag124 T.ze124 T.el124 T.ar124 T.pl124 T.sz125 T.by125 T.ag125 T.ze125 T.el125 T.ar125 T.pl125 T.sz126 T.by126 T.ag126
attribute [go_sem] T.ze126 T.el126 T.fu126 T.sz127 T.by127 T.ag127 T.ze127 T.el127 T.fu127 T.sz128 T.by128 T.ag128 T.ze128 T.el128 T.fu128 T.sz129 T.by129 T.ag129 T.ze129 T.el129 T.fu129 T.sz130 T.by130 T.ag130 T.ze130 T.el130 T.fu130 T.sz131 T.by131 T.ag131 T.ze131 T.el131 T.fu131 T.sz132 T.by132 T.ag132 T.ze132 T.el132 T.fu132 T.sz133
attribute [go_sem] T.by133 T.ag133 T.ze133 T.el133 T.fu133 T.sz134 T.by134 T.ag134 T.ze134 T.el134 T.fu134 T.sz135 T.by135 T.ag135 T.ze135 T.el135 T.fu135 T.sz136 T.by136 T.ag136 T.ze136 T.el136 T.fu136 T.sz137 T.by137 T.ag137 T.ze137 T.el137 T.fu137 T.sz138 T.by138 T.ag138 T.ze138 T.el138 T.fu138 T.sz139 T.by139 T.ag139 T.ze139 T.el139
attribute [go_sem] T.fu139 T.sz140 T.by140 T.ag140 T.ze140 T.el140 T.fu140 T.sz141 T.by141 T.ag141 T.ze141 T.el141 T.fu141 T.sz142 T.by142 T.ag142 T.ze142 T.el142 T.fu142 T.sz143 T.by143 T.ag143 T.ze143 T.el143 T.fu143 T.sz144 T.by144 T.ag144 T.ze144 T.el144 T.fu144 T.sz145 T.by145 T.ag145 T.ze145 T.el145 T.fu145 T.sz146 T.by146 T.ag146
attribute [go_sem] T.ze146 T.el146 T.fu146 T.sz147 T.by147 T.ag147 T.ze147 T.el147 T.ar147 T.pl147 T.sz148 T.by148 T.ag148 T.ze148 T.el148 T.fu148 T.sz149 T.by149 T.ag149 T.ze149 T.el149 T.fu149 T.sz151 T.by151 T.ag151 T.ze151 T.el151 T.fu151 T.ik152 T.sz152 T.by152 T.ag152 T.ze152 T.el152 T.bo152 T.sz153 T.by153 T.ag153 T.ze153 T.el153
attribute [go_sem] T.fu153 T.sz154 T.by154 T.ag154 T.ze154 T.el154 T.fu154 T.sz155 T.by155 T.ag155 T.ze155 T.el155 T.fu155 T.sz156 T.by156 T.ag156 T.ze156 T.el156 T.fu156 T.sz157 T.by157 T.ag157 T.ze157 T.el157 T.fl157_0 T.fl157_1 T.pl157 T.fi157 T.fn157 T.sz158 T.by158 T.ag158 T.ze158 T.el158 T.fl158_0 T.fl158_1 T.pl158 T.fi158 T.fn158 T.sz159
attribute [go_sem] T.by159 T.ag159 T.ze159 T.el159 T.fl159_0 T.fl159_1 T.pl159 T.fi159 T.fn159 T.sz160 T.by160 T.ag160 T.ze160 T.el160 T.fl160_0 T.fl160_1 T.pl160 T.fi160 T.fn160 T.sz161 T.by161 T.ag161 T.ze161 T.el161 T.fu161 T.sz162 T.by162 T.ag162 T.ze162 T.el162 T.fu162 T.sz163 T.by163 T.ag163 T.ze163 T.el163 T.fu163 T.sz164 T.by164 T.ag164
attribute [go_sem] T.ze164 T.el164 T.fu164 T.sz165 T.by165 T.ag165 T.ze165 T.el165 T.fu165 T.sz166 T.by166 T.ag166 T.ze166 T.el166 T.fu166 T.sz167 T.by167 T.ag167 T.ze167 T.el167 T.fu167 T.sz168 T.by168 T.ag168 T.ze168 T.el168 T.fl168_0 T.fl168_1 T.fl168_2 T.fl168_3 T.pl168 T.sz169 T.by169 T.ag169 T.ze169 T.el169 T.fl169_0 T.fl169_1 T.fl169_2 T.fl169_3
attribute [go_sem] T.pl169 T.sz170 T.by170 T.ag170 T.ze170 T.el170 T.ar170 T.pl170 T.sz171 T.by171 T.ag171 T.ze171 T.el171 T.pl171 T.sz172 T.by172 T.ag172 T.ze172 T.el172 T.pl172 T.sz173 T.by173 T.ag173 T.ze173 T.el173 T.fu173 T.ik174 T.sz174 T.by174 T.ag174 T.ze174 T.el174 T.bo174 T.ik175 T.sz175 T.by175 T.ag175 T.ze175 T.el175 T.bo175
attribute [go_sem] T.sz176 T.by176 T.ag176 T.ze176 T.el176 T.fu176 T.sz177 T.by177 T.ag177 T.ze177 T.el177 T.sz180 T.by180 T.ag180 T.ze180 T.el180 T.fl180_0 T.fl180_1 T.fl180_2 T.fl180_3 T.fl180_4 T.fl180_5 T.fl180_6 T.fl180_7 T.fl180_8 T.fl180_9 T.fl180_10 T.pl180 T.sz181 T.by181 T.ag181 T.ze181 T.el181 T.fl181_0 T.fl181_1 T.fl181_2 T.fl181_3 T.fl181_4 T.fl181_5 T.fl181_6
attribute [go_sem] T.fl181_7 T.fl181_8 T.fl181_9 T.fl181_10 T.pl181
end Go.Proofs.Ytoadkchhimojlaa

