/- Contracts of functions of the given program, without a condition beyond those that each theorem states; they lead to the given statement. -/
import Derived.Test.YtllmohmgakdbdaaFlB
import Derived.Test.YtllmohmgakdbdaaProg
namespace Go.Proofs.Ytllmohmgakdbdaa
open Go Go.Fl
theorem T.sz1 : szT Try.prog 1 = some 1 := by kernel_rfl
theorem T.by1 : byT Try.prog 1 = some 8 := by kernel_rfl
theorem T.ag1 : aggT Try.prog 1 = some false := by kernel_rfl
theorem T.ze1 : zeroT Try.prog 1 = some [.nilF] := by kernel_rfl
theorem T.el1 : elT Try.prog 1 = none := by kernel_rfl
theorem T.sz2 : szT Try.prog 2 = some 1 := by kernel_rfl
theorem T.by2 : byT Try.prog 2 = some 8 := by kernel_rfl
theorem T.ag2 : aggT Try.prog 2 = some false := by kernel_rfl
theorem T.ze2 : zeroT Try.prog 2 = some [(.int .i64 0)] := by kernel_rfl
theorem T.el2 : elT Try.prog 2 = none := by kernel_rfl
theorem T.bo2 : boolT Try.prog 2 = false := by kernel_rfl
theorem T.sz3 : szT Try.prog 3 = some 1 := by kernel_rfl
theorem T.by3 : byT Try.prog 3 = some 8 := by kernel_rfl
theorem T.ag3 : aggT Try.prog 3 = some false := by kernel_rfl
theorem T.ze3 : zeroT Try.prog 3 = some [(.int .i64 0)] := by kernel_rfl
theorem T.el3 : elT Try.prog 3 = none := by kernel_rfl
theorem T.bo3 : boolT Try.prog 3 = false := by kernel_rfl
theorem T.sz4 : szT Try.prog 4 = some 1 := by kernel_rfl
theorem T.by4 : byT Try.prog 4 = some 1 := by kernel_rfl
theorem T.ag4 : aggT Try.prog 4 = some false := by kernel_rfl
theorem T.ze4 : zeroT Try.prog 4 = some [.bool false] := by kernel_rfl
theorem T.el4 : elT Try.prog 4 = none := by kernel_rfl
theorem T.bo4 : boolT Try.prog 4 = true := by kernel_rfl
theorem T.sz12 : szT Try.prog 12 = some 1 := by kernel_rfl
theorem T.by12 : byT Try.prog 12 = some 8 := by kernel_rfl
theorem T.ag12 : aggT Try.prog 12 = some false := by kernel_rfl
theorem T.ze12 : zeroT Try.prog 12 = some [(.int .u64 0)] := by kernel_rfl
theorem T.el12 : elT Try.prog 12 = none := by kernel_rfl
theorem T.bo12 : boolT Try.prog 12 = false := by kernel_rfl
theorem T.sz15 : szT Try.prog 15 = some 1 := by kernel_rfl
theorem T.by15 : byT Try.prog 15 = some 8 := by kernel_rfl
theorem T.ag15 : aggT Try.prog 15 = some false := by kernel_rfl
theorem T.ze15 : zeroT Try.prog 15 = some [.nilP] := by kernel_rfl
theorem T.el15 : elT Try.prog 15 = none := by kernel_rfl
theorem T.sz16 : szT Try.prog 16 = some 1 := by kernel_rfl
theorem T.by16 : byT Try.prog 16 = some 8 := by kernel_rfl
theorem T.ag16 : aggT Try.prog 16 = some false := by kernel_rfl
theorem T.ze16 : zeroT Try.prog 16 = some [.nilP] := by kernel_rfl
theorem T.el16 : elT Try.prog 16 = none := by kernel_rfl
theorem T.sz17 : szT Try.prog 17 = some 1 := by kernel_rfl
theorem T.by17 : byT Try.prog 17 = some 8 := by kernel_rfl
theorem T.ag17 : aggT Try.prog 17 = some false := by kernel_rfl
theorem T.ze17 : zeroT Try.prog 17 = some [.nilP] := by kernel_rfl
theorem T.el17 : elT Try.prog 17 = none := by kernel_rfl
theorem T.sz18 : szT Try.prog 18 = some 1 := by kernel_rfl
theorem T.by18 : byT Try.prog 18 = some 8 := by kernel_rfl
theorem T.ag18 : aggT Try.prog 18 = some true := by kernel_rfl
theorem T.ze18 : zeroT Try.prog 18 = some [.nilP] := by kernel_rfl
theorem T.el18 : elT Try.prog 18 = none := by kernel_rfl
theorem T.fl18_0 : fldT Try.prog 18 0 = some (0, 17) := by kernel_rfl
theorem T.pl18 : plT Try.prog 18 = some (some [(0, 1)]) := by kernel_rfl
theorem T.sz19 : szT Try.prog 19 = some 1 := by kernel_rfl
theorem T.by19 : byT Try.prog 19 = some 8 := by kernel_rfl
theorem T.ag19 : aggT Try.prog 19 = some true := by kernel_rfl
theorem T.ze19 : zeroT Try.prog 19 = some [.nilP] := by kernel_rfl
theorem T.el19 : elT Try.prog 19 = none := by kernel_rfl
theorem T.fl19_0 : fldT Try.prog 19 0 = some (0, 17) := by kernel_rfl
theorem T.pl19 : plT Try.prog 19 = some (some [(0, 1)]) := by kernel_rfl
theorem T.sz22 : szT Try.prog 22 = some 1 := by kernel_rfl
theorem T.by22 : byT Try.prog 22 = some 24 := by kernel_rfl
theorem T.ag22 : aggT Try.prog 22 = some false := by kernel_rfl
theorem T.ze22 : zeroT Try.prog 22 = some [.nilS] := by kernel_rfl
theorem T.el22 : elT Try.prog 22 = some (46, 4) := by kernel_rfl
theorem T.sz23 : szT Try.prog 23 = some 1 := by kernel_rfl
theorem T.by23 : byT Try.prog 23 = some 24 := by kernel_rfl
theorem T.ag23 : aggT Try.prog 23 = some false := by kernel_rfl
theorem T.ze23 : zeroT Try.prog 23 = some [.nilS] := by kernel_rfl
theorem T.el23 : elT Try.prog 23 = some (57, 3) := by kernel_rfl
theorem T.sz24 : szT Try.prog 24 = some 2 := by kernel_rfl
theorem T.by24 : byT Try.prog 24 = some 48 := by kernel_rfl
theorem T.ag24 : aggT Try.prog 24 = some true := by kernel_rfl
theorem T.ze24 : zeroT Try.prog 24 = some [.nilS, .nilS] := by kernel_rfl
theorem T.el24 : elT Try.prog 24 = none := by kernel_rfl
theorem T.fl24_0 : fldT Try.prog 24 0 = some (0, 22) := by kernel_rfl
theorem T.fl24_1 : fldT Try.prog 24 1 = some (1, 23) := by kernel_rfl
theorem T.pl24 : plT Try.prog 24 = some (some [(0, 1), (1, 1)]) := by kernel_rfl
theorem T.sz25 : szT Try.prog 25 = some 2 := by kernel_rfl
theorem T.by25 : byT Try.prog 25 = some 48 := by kernel_rfl
theorem T.ag25 : aggT Try.prog 25 = some true := by kernel_rfl
theorem T.ze25 : zeroT Try.prog 25 = some [.nilS, .nilS] := by kernel_rfl
theorem T.el25 : elT Try.prog 25 = none := by kernel_rfl
theorem T.fl25_0 : fldT Try.prog 25 0 = some (0, 22) := by kernel_rfl
theorem T.fl25_1 : fldT Try.prog 25 1 = some (1, 23) := by kernel_rfl
theorem T.pl25 : plT Try.prog 25 = some (some [(0, 1), (1, 1)]) := by kernel_rfl
theorem T.sz26 : szT Try.prog 26 = some 3 := by kernel_rfl
theorem T.by26 : byT Try.prog 26 = some 24 := by kernel_rfl
theorem T.ag26 : aggT Try.prog 26 = some true := by kernel_rfl
theorem T.ze26 : zeroT Try.prog 26 = some [(.int .i64 0), (.int .i64 0), (.int .i64 0)] := by kernel_rfl
theorem T.el26 : elT Try.prog 26 = none := by kernel_rfl
theorem T.fl26_0 : fldT Try.prog 26 0 = some (0, 3) := by kernel_rfl
theorem T.fl26_1 : fldT Try.prog 26 1 = some (1, 3) := by kernel_rfl
theorem T.fl26_2 : fldT Try.prog 26 2 = some (2, 3) := by kernel_rfl
theorem T.pl26 : plT Try.prog 26 = some (some [(0, 1), (1, 1), (2, 1)]) := by kernel_rfl
theorem T.fi26 : flatI Try.prog 26 = true := by kernel_rfl
theorem T.fn26 : flatN Try.prog 26 = 3 := by kernel_rfl
theorem T.sz27 : szT Try.prog 27 = some 3 := by kernel_rfl
theorem T.by27 : byT Try.prog 27 = some 24 := by kernel_rfl
theorem T.ag27 : aggT Try.prog 27 = some true := by kernel_rfl
theorem T.ze27 : zeroT Try.prog 27 = some [(.int .i64 0), (.int .i64 0), (.int .i64 0)] := by kernel_rfl
theorem T.el27 : elT Try.prog 27 = none := by kernel_rfl
theorem T.fl27_0 : fldT Try.prog 27 0 = some (0, 3) := by kernel_rfl
theorem T.fl27_1 : fldT Try.prog 27 1 = some (1, 3) := by kernel_rfl
theorem T.fl27_2 : fldT Try.prog 27 2 = some (2, 3) := by kernel_rfl
theorem T.pl27 : plT Try.prog 27 = some (some [(0, 1), (1, 1), (2, 1)]) := by kernel_rfl
theorem T.fi27 : flatI Try.prog 27 = true := by kernel_rfl
theorem T.fn27 : flatN Try.prog 27 = 3 := by kernel_rfl
theorem T.sz28 : szT Try.prog 28 = some 1 := by kernel_rfl
theorem T.by28 : byT Try.prog 28 = some 24 := by kernel_rfl
theorem T.ag28 : aggT Try.prog 28 = some false := by kernel_rfl
theorem T.ze28 : zeroT Try.prog 28 = some [.nilS] := by kernel_rfl
theorem T.el28 : elT Try.prog 28 = some (3, 1) := by kernel_rfl
theorem T.sz29 : szT Try.prog 29 = some 1 := by kernel_rfl
theorem T.by29 : byT Try.prog 29 = some 8 := by kernel_rfl
theorem T.ag29 : aggT Try.prog 29 = some false := by kernel_rfl
theorem T.ze29 : zeroT Try.prog 29 = some [.nilF] := by kernel_rfl
theorem T.el29 : elT Try.prog 29 = none := by kernel_rfl
theorem T.sz30 : szT Try.prog 30 = some 1 := by kernel_rfl
theorem T.by30 : byT Try.prog 30 = some 8 := by kernel_rfl
theorem T.ag30 : aggT Try.prog 30 = some false := by kernel_rfl
theorem T.ze30 : zeroT Try.prog 30 = some [.nilF] := by kernel_rfl
theorem T.el30 : elT Try.prog 30 = none := by kernel_rfl
theorem T.sz31 : szT Try.prog 31 = some 1 := by kernel_rfl
theorem T.by31 : byT Try.prog 31 = some 8 := by kernel_rfl
theorem T.ag31 : aggT Try.prog 31 = some false := by kernel_rfl
theorem T.ze31 : zeroT Try.prog 31 = some [.nilF] := by kernel_rfl
theorem T.el31 : elT Try.prog 31 = none := by kernel_rfl
theorem T.sz32 : szT Try.prog 32 = some 1 := by kernel_rfl
theorem T.by32 : byT Try.prog 32 = some 8 := by kernel_rfl
theorem T.ag32 : aggT Try.prog 32 = some false := by kernel_rfl
theorem T.ze32 : zeroT Try.prog 32 = some [.nilF] := by kernel_rfl
theorem T.el32 : elT Try.prog 32 = none := by kernel_rfl
theorem T.sz33 : szT Try.prog 33 = some 1 := by kernel_rfl
theorem T.by33 : byT Try.prog 33 = some 8 := by kernel_rfl
theorem T.ag33 : aggT Try.prog 33 = some false := by kernel_rfl
theorem T.ze33 : zeroT Try.prog 33 = some [(.int .i64 0)] := by kernel_rfl
theorem T.el33 : elT Try.prog 33 = none := by kernel_rfl
theorem T.bo33 : boolT Try.prog 33 = false := by kernel_rfl
theorem T.sz35 : szT Try.prog 35 = some 1 := by kernel_rfl
theorem T.by35 : byT Try.prog 35 = some 8 := by kernel_rfl
theorem T.ag35 : aggT Try.prog 35 = some false := by kernel_rfl
theorem T.ze35 : zeroT Try.prog 35 = some [.nilF] := by kernel_rfl
theorem T.el35 : elT Try.prog 35 = none := by kernel_rfl
theorem T.sz36 : szT Try.prog 36 = some 1 := by kernel_rfl
theorem T.by36 : byT Try.prog 36 = some 8 := by kernel_rfl
theorem T.ag36 : aggT Try.prog 36 = some false := by kernel_rfl
theorem T.ze36 : zeroT Try.prog 36 = some [.nilF] := by kernel_rfl
theorem T.el36 : elT Try.prog 36 = none := by kernel_rfl
theorem T.sz37 : szT Try.prog 37 = some 1 := by kernel_rfl
theorem T.by37 : byT Try.prog 37 = some 8 := by kernel_rfl
theorem T.ag37 : aggT Try.prog 37 = some false := by kernel_rfl
theorem T.ze37 : zeroT Try.prog 37 = some [.nilF] := by kernel_rfl
theorem T.el37 : elT Try.prog 37 = none := by kernel_rfl
theorem T.sz38 : szT Try.prog 38 = some 1 := by kernel_rfl
theorem T.by38 : byT Try.prog 38 = some 8 := by kernel_rfl
theorem T.ag38 : aggT Try.prog 38 = some false := by kernel_rfl
theorem T.ze38 : zeroT Try.prog 38 = some [.nilF] := by kernel_rfl
theorem T.el38 : elT Try.prog 38 = none := by kernel_rfl
theorem T.sz39 : szT Try.prog 39 = some 1 := by kernel_rfl
theorem T.by39 : byT Try.prog 39 = some 8 := by kernel_rfl
theorem T.ag39 : aggT Try.prog 39 = some false := by kernel_rfl
theorem T.ze39 : zeroT Try.prog 39 = some [.nilF] := by kernel_rfl
theorem T.el39 : elT Try.prog 39 = none := by kernel_rfl
theorem T.sz40 : szT Try.prog 40 = some 2 := by kernel_rfl
theorem T.by40 : byT Try.prog 40 = some 16 := by kernel_rfl
theorem T.ag40 : aggT Try.prog 40 = some true := by kernel_rfl
theorem T.ze40 : zeroT Try.prog 40 = some [(.int .i64 0), (.int .i64 0)] := by kernel_rfl
theorem T.el40 : elT Try.prog 40 = none := by kernel_rfl
theorem T.fl40_0 : fldT Try.prog 40 0 = some (0, 3) := by kernel_rfl
theorem T.fl40_1 : fldT Try.prog 40 1 = some (1, 3) := by kernel_rfl
theorem T.pl40 : plT Try.prog 40 = some (some [(0, 1), (1, 1)]) := by kernel_rfl
theorem T.fi40 : flatI Try.prog 40 = true := by kernel_rfl
theorem T.fn40 : flatN Try.prog 40 = 2 := by kernel_rfl
theorem T.sz41 : szT Try.prog 41 = some 2 := by kernel_rfl
theorem T.by41 : byT Try.prog 41 = some 16 := by kernel_rfl
theorem T.ag41 : aggT Try.prog 41 = some true := by kernel_rfl
theorem T.ze41 : zeroT Try.prog 41 = some [(.int .i64 0), (.int .i64 0)] := by kernel_rfl
theorem T.el41 : elT Try.prog 41 = none := by kernel_rfl
theorem T.fl41_0 : fldT Try.prog 41 0 = some (0, 3) := by kernel_rfl
theorem T.fl41_1 : fldT Try.prog 41 1 = some (1, 3) := by kernel_rfl
theorem T.pl41 : plT Try.prog 41 = some (some [(0, 1), (1, 1)]) := by kernel_rfl
theorem T.fi41 : flatI Try.prog 41 = true := by kernel_rfl
theorem T.fn41 : flatN Try.prog 41 = 2 := by kernel_rfl
theorem T.sz42 : szT Try.prog 42 = some 1 := by kernel_rfl
theorem T.by42 : byT Try.prog 42 = some 8 := by kernel_rfl
theorem T.ag42 : aggT Try.prog 42 = some false := by kernel_rfl
theorem T.ze42 : zeroT Try.prog 42 = some [.nilF] := by kernel_rfl
theorem T.el42 : elT Try.prog 42 = none := by kernel_rfl
theorem T.sz43 : szT Try.prog 43 = some 1 := by kernel_rfl
theorem T.by43 : byT Try.prog 43 = some 8 := by kernel_rfl
theorem T.ag43 : aggT Try.prog 43 = some false := by kernel_rfl
theorem T.ze43 : zeroT Try.prog 43 = some [.nilF] := by kernel_rfl
theorem T.el43 : elT Try.prog 43 = none := by kernel_rfl
theorem T.sz44 : szT Try.prog 44 = some 1 := by kernel_rfl
theorem T.by44 : byT Try.prog 44 = some 8 := by kernel_rfl
theorem T.ag44 : aggT Try.prog 44 = some false := by kernel_rfl
theorem T.ze44 : zeroT Try.prog 44 = some [.nilF] := by kernel_rfl
theorem T.el44 : elT Try.prog 44 = none := by kernel_rfl
theorem T.sz45 : szT Try.prog 45 = some 4 := by kernel_rfl
theorem T.by45 : byT Try.prog 45 = some 32 := by kernel_rfl
theorem T.ag45 : aggT Try.prog 45 = some true := by kernel_rfl
theorem T.ze45 : zeroT Try.prog 45 = some [(.int .i64 0), (.int .i64 0), (.int .i64 0), (.int .i64 0)] := by kernel_rfl
theorem T.el45 : elT Try.prog 45 = none := by kernel_rfl
theorem T.fl45_0 : fldT Try.prog 45 0 = some (0, 3) := by kernel_rfl
theorem T.fl45_1 : fldT Try.prog 45 1 = some (1, 3) := by kernel_rfl
theorem T.fl45_2 : fldT Try.prog 45 2 = some (2, 3) := by kernel_rfl
theorem T.fl45_3 : fldT Try.prog 45 3 = some (3, 3) := by kernel_rfl
theorem T.pl45 : plT Try.prog 45 = some (some [(0, 1), (1, 1), (2, 1), (3, 1)]) := by kernel_rfl
theorem T.fi45 : flatI Try.prog 45 = true := by kernel_rfl
theorem T.fn45 : flatN Try.prog 45 = 4 := by kernel_rfl
theorem T.sz46 : szT Try.prog 46 = some 4 := by kernel_rfl
theorem T.by46 : byT Try.prog 46 = some 32 := by kernel_rfl
theorem T.ag46 : aggT Try.prog 46 = some true := by kernel_rfl
theorem T.ze46 : zeroT Try.prog 46 = some [(.int .i64 0), (.int .i64 0), (.int .i64 0), (.int .i64 0)] := by kernel_rfl
theorem T.el46 : elT Try.prog 46 = none := by kernel_rfl
theorem T.fl46_0 : fldT Try.prog 46 0 = some (0, 3) := by kernel_rfl
theorem T.fl46_1 : fldT Try.prog 46 1 = some (1, 3) := by kernel_rfl
theorem T.fl46_2 : fldT Try.prog 46 2 = some (2, 3) := by kernel_rfl
theorem T.fl46_3 : fldT Try.prog 46 3 = some (3, 3) := by kernel_rfl
theorem T.pl46 : plT Try.prog 46 = some (some [(0, 1), (1, 1), (2, 1), (3, 1)]) := by kernel_rfl
theorem T.fi46 : flatI Try.prog 46 = true := by kernel_rfl
theorem T.fn46 : flatN Try.prog 46 = 4 := by kernel_rfl
theorem T.sz47 : szT Try.prog 47 = some 1 := by kernel_rfl
theorem T.by47 : byT Try.prog 47 = some 8 := by kernel_rfl
theorem T.ag47 : aggT Try.prog 47 = some false := by kernel_rfl
theorem T.ze47 : zeroT Try.prog 47 = some [.nilF] := by kernel_rfl
theorem T.el47 : elT Try.prog 47 = none := by kernel_rfl
theorem T.sz48 : szT Try.prog 48 = some 1 := by kernel_rfl
theorem T.by48 : byT Try.prog 48 = some 8 := by kernel_rfl
theorem T.ag48 : aggT Try.prog 48 = some false := by kernel_rfl
theorem T.ze48 : zeroT Try.prog 48 = some [.nilF] := by kernel_rfl
theorem T.el48 : elT Try.prog 48 = none := by kernel_rfl
theorem T.sz49 : szT Try.prog 49 = some 1 := by kernel_rfl
theorem T.by49 : byT Try.prog 49 = some 8 := by kernel_rfl
theorem T.ag49 : aggT Try.prog 49 = some false := by kernel_rfl
theorem T.ze49 : zeroT Try.prog 49 = some [.nilF] := by kernel_rfl
theorem T.el49 : elT Try.prog 49 = none := by kernel_rfl
theorem T.sz50 : szT Try.prog 50 = some 1 := by kernel_rfl
theorem T.by50 : byT Try.prog 50 = some 8 := by kernel_rfl
theorem T.ag50 : aggT Try.prog 50 = some false := by kernel_rfl
theorem T.ze50 : zeroT Try.prog 50 = some [.nilF] := by kernel_rfl
theorem T.el50 : elT Try.prog 50 = none := by kernel_rfl
theorem T.sz51 : szT Try.prog 51 = some 1 := by kernel_rfl
theorem T.by51 : byT Try.prog 51 = some 8 := by kernel_rfl
theorem T.ag51 : aggT Try.prog 51 = some false := by kernel_rfl
theorem T.ze51 : zeroT Try.prog 51 = some [.nilF] := by kernel_rfl
theorem T.el51 : elT Try.prog 51 = none := by kernel_rfl
theorem T.sz52 : szT Try.prog 52 = some 2 := by kernel_rfl
theorem T.by52 : byT Try.prog 52 = some 16 := by kernel_rfl
theorem T.ag52 : aggT Try.prog 52 = some true := by kernel_rfl
theorem T.ze52 : zeroT Try.prog 52 = some [(.int .i64 0), (.int .i64 0)] := by kernel_rfl
theorem T.el52 : elT Try.prog 52 = none := by kernel_rfl
theorem T.fl52_0 : fldT Try.prog 52 0 = some (0, 3) := by kernel_rfl
theorem T.fl52_1 : fldT Try.prog 52 1 = some (1, 3) := by kernel_rfl
theorem T.pl52 : plT Try.prog 52 = some (some [(0, 1), (1, 1)]) := by kernel_rfl
theorem T.fi52 : flatI Try.prog 52 = true := by kernel_rfl
theorem T.fn52 : flatN Try.prog 52 = 2 := by kernel_rfl
theorem T.sz53 : szT Try.prog 53 = some 2 := by kernel_rfl
theorem T.by53 : byT Try.prog 53 = some 16 := by kernel_rfl
theorem T.ag53 : aggT Try.prog 53 = some true := by kernel_rfl
theorem T.ze53 : zeroT Try.prog 53 = some [(.int .i64 0), (.int .i64 0)] := by kernel_rfl
theorem T.el53 : elT Try.prog 53 = none := by kernel_rfl
theorem T.fl53_0 : fldT Try.prog 53 0 = some (0, 3) := by kernel_rfl
theorem T.fl53_1 : fldT Try.prog 53 1 = some (1, 3) := by kernel_rfl
theorem T.pl53 : plT Try.prog 53 = some (some [(0, 1), (1, 1)]) := by kernel_rfl
theorem T.fi53 : flatI Try.prog 53 = true := by kernel_rfl
theorem T.fn53 : flatN Try.prog 53 = 2 := by kernel_rfl
theorem T.sz55 : szT Try.prog 55 = some 1 := by kernel_rfl
theorem T.by55 : byT Try.prog 55 = some 8 := by kernel_rfl
theorem T.ag55 : aggT Try.prog 55 = some false := by kernel_rfl
theorem T.ze55 : zeroT Try.prog 55 = some [.nilF] := by kernel_rfl
theorem T.el55 : elT Try.prog 55 = none := by kernel_rfl
theorem T.sz56 : szT Try.prog 56 = some 3 := by kernel_rfl
theorem T.by56 : byT Try.prog 56 = some 24 := by kernel_rfl
theorem T.ag56 : aggT Try.prog 56 = some true := by kernel_rfl
theorem T.ze56 : zeroT Try.prog 56 = some [(.int .i64 0), (.int .i64 0), (.int .i64 0)] := by kernel_rfl
theorem T.el56 : elT Try.prog 56 = none := by kernel_rfl
theorem T.fl56_0 : fldT Try.prog 56 0 = some (0, 3) := by kernel_rfl
theorem T.fl56_1 : fldT Try.prog 56 1 = some (1, 3) := by kernel_rfl
theorem T.fl56_2 : fldT Try.prog 56 2 = some (2, 3) := by kernel_rfl
theorem T.pl56 : plT Try.prog 56 = some (some [(0, 1), (1, 1), (2, 1)]) := by kernel_rfl
theorem T.fi56 : flatI Try.prog 56 = true := by kernel_rfl
theorem T.fn56 : flatN Try.prog 56 = 3 := by kernel_rfl
theorem T.sz57 : szT Try.prog 57 = some 3 := by kernel_rfl
theorem T.by57 : byT Try.prog 57 = some 24 := by kernel_rfl
theorem T.ag57 : aggT Try.prog 57 = some true := by kernel_rfl
theorem T.ze57 : zeroT Try.prog 57 = some [(.int .i64 0), (.int .i64 0), (.int .i64 0)] := by kernel_rfl
theorem T.el57 : elT Try.prog 57 = none := by kernel_rfl
theorem T.fl57_0 : fldT Try.prog 57 0 = some (0, 3) := by kernel_rfl
theorem T.fl57_1 : fldT Try.prog 57 1 = some (1, 3) := by kernel_rfl
theorem T.fl57_2 : fldT Try.prog 57 2 = some (2, 3) := by kernel_rfl
theorem T.pl57 : plT Try.prog 57 = some (some [(0, 1), (1, 1), (2, 1)]) := by kernel_rfl
theorem T.fi57 : flatI Try.prog 57 = true := by kernel_rfl
theorem T.fn57 : flatN Try.prog 57 = 3 := by kernel_rfl
theorem T.sz59 : szT Try.prog 59 = some 1 := by kernel_rfl
theorem T.by59 : byT Try.prog 59 = some 8 := by kernel_rfl
theorem T.ag59 : aggT Try.prog 59 = some false := by kernel_rfl
theorem T.ze59 : zeroT Try.prog 59 = some [.nilF] := by kernel_rfl
theorem T.el59 : elT Try.prog 59 = none := by kernel_rfl
theorem T.sz61 : szT Try.prog 61 = some 1 := by kernel_rfl
theorem T.by61 : byT Try.prog 61 = some 8 := by kernel_rfl
theorem T.ag61 : aggT Try.prog 61 = some false := by kernel_rfl
theorem T.ze61 : zeroT Try.prog 61 = some [.nilF] := by kernel_rfl
theorem T.el61 : elT Try.prog 61 = none := by kernel_rfl
theorem T.sz62 : szT Try.prog 62 = some 1 := by kernel_rfl
theorem T.by62 : byT Try.prog 62 = some 8 := by kernel_rfl
theorem T.ag62 : aggT Try.prog 62 = some false := by kernel_rfl
theorem T.ze62 : zeroT Try.prog 62 = some [.nilF] := by kernel_rfl
theorem T.el62 : elT Try.prog 62 = none := by kernel_rfl
theorem T.sz63 : szT Try.prog 63 = some 1 := by kernel_rfl
theorem T.by63 : byT Try.prog 63 = some 8 := by kernel_rfl
theorem T.ag63 : aggT Try.prog 63 = some false := by kernel_rfl
theorem T.ze63 : zeroT Try.prog 63 = some [.nilF] := by kernel_rfl
theorem T.el63 : elT Try.prog 63 = none := by kernel_rfl
theorem T.sz64 : szT Try.prog 64 = some 1 := by kernel_rfl
theorem T.by64 : byT Try.prog 64 = some 8 := by kernel_rfl
theorem T.ag64 : aggT Try.prog 64 = some false := by kernel_rfl
theorem T.ze64 : zeroT Try.prog 64 = some [.nilF] := by kernel_rfl
theorem T.el64 : elT Try.prog 64 = none := by kernel_rfl
theorem T.sz66 : szT Try.prog 66 = some 1 := by kernel_rfl
theorem T.by66 : byT Try.prog 66 = some 8 := by kernel_rfl
theorem T.ag66 : aggT Try.prog 66 = some false := by kernel_rfl
theorem T.ze66 : zeroT Try.prog 66 = some [.nilF] := by kernel_rfl
theorem T.el66 : elT Try.prog 66 = none := by kernel_rfl
theorem T.sz67 : szT Try.prog 67 = some 1 := by kernel_rfl
theorem T.by67 : byT Try.prog 67 = some 8 := by kernel_rfl
theorem T.ag67 : aggT Try.prog 67 = some false := by kernel_rfl
theorem T.ze67 : zeroT Try.prog 67 = some [.nilF] := by kernel_rfl
theorem T.el67 : elT Try.prog 67 = none := by kernel_rfl
theorem T.sz69 : szT Try.prog 69 = some 1 := by kernel_rfl
theorem T.by69 : byT Try.prog 69 = some 8 := by kernel_rfl
theorem T.ag69 : aggT Try.prog 69 = some false := by kernel_rfl
theorem T.ze69 : zeroT Try.prog 69 = some [.nilF] := by kernel_rfl
theorem T.el69 : elT Try.prog 69 = none := by kernel_rfl
theorem T.sz70 : szT Try.prog 70 = some 1 := by kernel_rfl
theorem T.by70 : byT Try.prog 70 = some 8 := by kernel_rfl
theorem T.ag70 : aggT Try.prog 70 = some false := by kernel_rfl
theorem T.ze70 : zeroT Try.prog 70 = some [.nilF] := by kernel_rfl
theorem T.el70 : elT Try.prog 70 = none := by kernel_rfl
theorem T.sz71 : szT Try.prog 71 = some 1 := by kernel_rfl
theorem T.by71 : byT Try.prog 71 = some 8 := by kernel_rfl
theorem T.ag71 : aggT Try.prog 71 = some false := by kernel_rfl
theorem T.ze71 : zeroT Try.prog 71 = some [.nilF] := by kernel_rfl
theorem T.el71 : elT Try.prog 71 = none := by kernel_rfl
theorem T.sz73 : szT Try.prog 73 = some 1 := by kernel_rfl
theorem T.by73 : byT Try.prog 73 = some 8 := by kernel_rfl
theorem T.ag73 : aggT Try.prog 73 = some false := by kernel_rfl
theorem T.ze73 : zeroT Try.prog 73 = some [.nilF] := by kernel_rfl
theorem T.el73 : elT Try.prog 73 = none := by kernel_rfl
theorem T.sz74 : szT Try.prog 74 = some 1 := by kernel_rfl
theorem T.by74 : byT Try.prog 74 = some 8 := by kernel_rfl
theorem T.ag74 : aggT Try.prog 74 = some false := by kernel_rfl
theorem T.ze74 : zeroT Try.prog 74 = some [.nilF] := by kernel_rfl
theorem T.el74 : elT Try.prog 74 = none := by kernel_rfl
theorem T.sz75 : szT Try.prog 75 = some 2 := by kernel_rfl
theorem T.by75 : byT Try.prog 75 = some 32 := by kernel_rfl
theorem T.ag75 : aggT Try.prog 75 = some true := by kernel_rfl
theorem T.ze75 : zeroT Try.prog 75 = some [.nilS, (.int .i64 0)] := by kernel_rfl
theorem T.el75 : elT Try.prog 75 = none := by kernel_rfl
theorem T.fl75_0 : fldT Try.prog 75 0 = some (0, 28) := by kernel_rfl
theorem T.fl75_1 : fldT Try.prog 75 1 = some (1, 3) := by kernel_rfl
theorem T.pl75 : plT Try.prog 75 = some (some [(0, 1), (1, 1)]) := by kernel_rfl
theorem T.sz76 : szT Try.prog 76 = some 2 := by kernel_rfl
theorem T.by76 : byT Try.prog 76 = some 32 := by kernel_rfl
theorem T.ag76 : aggT Try.prog 76 = some true := by kernel_rfl
theorem T.ze76 : zeroT Try.prog 76 = some [.nilS, (.int .i64 0)] := by kernel_rfl
theorem T.el76 : elT Try.prog 76 = none := by kernel_rfl
theorem T.fl76_0 : fldT Try.prog 76 0 = some (0, 28) := by kernel_rfl
theorem T.fl76_1 : fldT Try.prog 76 1 = some (1, 3) := by kernel_rfl
theorem T.pl76 : plT Try.prog 76 = some (some [(0, 1), (1, 1)]) := by kernel_rfl
theorem T.sz77 : szT Try.prog 77 = some 1 := by kernel_rfl
theorem T.by77 : byT Try.prog 77 = some 8 := by kernel_rfl
theorem T.ag77 : aggT Try.prog 77 = some false := by kernel_rfl
theorem T.ze77 : zeroT Try.prog 77 = some [.nilF] := by kernel_rfl
theorem T.el77 : elT Try.prog 77 = none := by kernel_rfl
theorem T.sz78 : szT Try.prog 78 = some 1 := by kernel_rfl
theorem T.by78 : byT Try.prog 78 = some 8 := by kernel_rfl
theorem T.ag78 : aggT Try.prog 78 = some false := by kernel_rfl
theorem T.ze78 : zeroT Try.prog 78 = some [.nilP] := by kernel_rfl
theorem T.el78 : elT Try.prog 78 = none := by kernel_rfl
theorem T.sz79 : szT Try.prog 79 = some 1 := by kernel_rfl
theorem T.by79 : byT Try.prog 79 = some 8 := by kernel_rfl
theorem T.ag79 : aggT Try.prog 79 = some false := by kernel_rfl
theorem T.ze79 : zeroT Try.prog 79 = some [.nilF] := by kernel_rfl
theorem T.el79 : elT Try.prog 79 = none := by kernel_rfl
theorem T.sz80 : szT Try.prog 80 = some 1 := by kernel_rfl
theorem T.by80 : byT Try.prog 80 = some 8 := by kernel_rfl
theorem T.ag80 : aggT Try.prog 80 = some false := by kernel_rfl
theorem T.ze80 : zeroT Try.prog 80 = some [.nilF] := by kernel_rfl
theorem T.el80 : elT Try.prog 80 = none := by kernel_rfl
theorem T.sz81 : szT Try.prog 81 = some 1 := by kernel_rfl
theorem T.by81 : byT Try.prog 81 = some 8 := by kernel_rfl
theorem T.ag81 : aggT Try.prog 81 = some false := by kernel_rfl
theorem T.ze81 : zeroT Try.prog 81 = some [.nilF] := by kernel_rfl
theorem T.el81 : elT Try.prog 81 = none := by kernel_rfl
theorem T.sz82 : szT Try.prog 82 = some 1 := by kernel_rfl
theorem T.by82 : byT Try.prog 82 = some 8 := by kernel_rfl
theorem T.ag82 : aggT Try.prog 82 = some false := by kernel_rfl
theorem T.ze82 : zeroT Try.prog 82 = some [.nilF] := by kernel_rfl
theorem T.el82 : elT Try.prog 82 = none := by kernel_rfl
theorem T.sz83 : szT Try.prog 83 = some 1 := by kernel_rfl
theorem T.by83 : byT Try.prog 83 = some 8 := by kernel_rfl
theorem T.ag83 : aggT Try.prog 83 = some false := by kernel_rfl
theorem T.ze83 : zeroT Try.prog 83 = some [.nilF] := by kernel_rfl
theorem T.el83 : elT Try.prog 83 = none := by kernel_rfl
theorem T.sz84 : szT Try.prog 84 = some 1 := by kernel_rfl
theorem T.by84 : byT Try.prog 84 = some 8 := by kernel_rfl
theorem T.ag84 : aggT Try.prog 84 = some false := by kernel_rfl
theorem T.ze84 : zeroT Try.prog 84 = some [.nilF] := by kernel_rfl
theorem T.el84 : elT Try.prog 84 = none := by kernel_rfl
theorem T.sz85 : szT Try.prog 85 = some 1 := by kernel_rfl
theorem T.by85 : byT Try.prog 85 = some 8 := by kernel_rfl
theorem T.ag85 : aggT Try.prog 85 = some false := by kernel_rfl
theorem T.ze85 : zeroT Try.prog 85 = some [.nilF] := by kernel_rfl
theorem T.el85 : elT Try.prog 85 = none := by kernel_rfl
theorem T.sz86 : szT Try.prog 86 = some 1 := by kernel_rfl
theorem T.by86 : byT Try.prog 86 = some 8 := by kernel_rfl
theorem T.ag86 : aggT Try.prog 86 = some false := by kernel_rfl
theorem T.ze86 : zeroT Try.prog 86 = some [.nilF] := by kernel_rfl
theorem T.el86 : elT Try.prog 86 = none := by kernel_rfl
theorem T.sz87 : szT Try.prog 87 = some 1 := by kernel_rfl
theorem T.by87 : byT Try.prog 87 = some 8 := by kernel_rfl
theorem T.ag87 : aggT Try.prog 87 = some false := by kernel_rfl
theorem T.ze87 : zeroT Try.prog 87 = some [.nilF] := by kernel_rfl
theorem T.el87 : elT Try.prog 87 = none := by kernel_rfl
theorem T.sz88 : szT Try.prog 88 = some 1 := by kernel_rfl
theorem T.by88 : byT Try.prog 88 = some 8 := by kernel_rfl
theorem T.ag88 : aggT Try.prog 88 = some false := by kernel_rfl
theorem T.ze88 : zeroT Try.prog 88 = some [.nilF] := by kernel_rfl
theorem T.el88 : elT Try.prog 88 = none := by kernel_rfl
theorem T.sz89 : szT Try.prog 89 = some 1 := by kernel_rfl
theorem T.by89 : byT Try.prog 89 = some 8 := by kernel_rfl
theorem T.ag89 : aggT Try.prog 89 = some false := by kernel_rfl
theorem T.ze89 : zeroT Try.prog 89 = some [.nilF] := by kernel_rfl
theorem T.el89 : elT Try.prog 89 = none := by kernel_rfl
theorem T.sz90 : szT Try.prog 90 = some 1 := by kernel_rfl
theorem T.by90 : byT Try.prog 90 = some 8 := by kernel_rfl
theorem T.ag90 : aggT Try.prog 90 = some false := by kernel_rfl
theorem T.ze90 : zeroT Try.prog 90 = some [.nilF] := by kernel_rfl
theorem T.el90 : elT Try.prog 90 = none := by kernel_rfl
theorem T.sz91 : szT Try.prog 91 = some 8 := by kernel_rfl
theorem T.by91 : byT Try.prog 91 = some 64 := by kernel_rfl
theorem T.ag91 : aggT Try.prog 91 = some true := by kernel_rfl
theorem T.ze91 : zeroT Try.prog 91 = some [(.int .i64 0), (.int .i64 0), (.int .i64 0), (.int .i64 0), (.int .i64 0), (.int .i64 0), (.int .i64 0), (.int .i64 0)] := by kernel_rfl
theorem T.el91 : elT Try.prog 91 = none := by kernel_rfl
theorem T.ar91 : arT Try.prog 91 = some (8, 3, 1) := by kernel_rfl
theorem T.pl91 : plT Try.prog 91 = some none := by kernel_rfl
theorem T.sz92 : szT Try.prog 92 = some 19 := by kernel_rfl
theorem T.by92 : byT Try.prog 92 = some 184 := by kernel_rfl
theorem T.ag92 : aggT Try.prog 92 = some true := by kernel_rfl
theorem T.ze92 : zeroT Try.prog 92 = some [.nilS, .nilS, (.int .i64 0), (.int .i64 0), (.int .i64 0), (.int .i64 0), (.int .i64 0), (.int .i64 0), (.int .i64 0), (.int .i64 0), (.int .i64 0), (.int .i64 0), (.int .i64 0), (.int .i64 0), (.int .i64 0), (.int .i64 0), (.int .i64 0), (.int .i64 0), (.int .i64 0)] := by kernel_rfl
theorem T.el92 : elT Try.prog 92 = none := by kernel_rfl
theorem T.fl92_0 : fldT Try.prog 92 0 = some (0, 25) := by kernel_rfl
theorem T.fl92_1 : fldT Try.prog 92 1 = some (2, 3) := by kernel_rfl
theorem T.fl92_2 : fldT Try.prog 92 2 = some (3, 91) := by kernel_rfl
theorem T.fl92_3 : fldT Try.prog 92 3 = some (11, 91) := by kernel_rfl
theorem T.pl92 : plT Try.prog 92 = some (some [(0, 2), (2, 1), (3, 8), (11, 8)]) := by kernel_rfl
theorem T.sz93 : szT Try.prog 93 = some 19 := by kernel_rfl
theorem T.by93 : byT Try.prog 93 = some 184 := by kernel_rfl
theorem T.ag93 : aggT Try.prog 93 = some true := by kernel_rfl
theorem T.ze93 : zeroT Try.prog 93 = some [.nilS, .nilS, (.int .i64 0), (.int .i64 0), (.int .i64 0), (.int .i64 0), (.int .i64 0), (.int .i64 0), (.int .i64 0), (.int .i64 0), (.int .i64 0), (.int .i64 0), (.int .i64 0), (.int .i64 0), (.int .i64 0), (.int .i64 0), (.int .i64 0), (.int .i64 0), (.int .i64 0)] := by kernel_rfl
theorem T.el93 : elT Try.prog 93 = none := by kernel_rfl
theorem T.fl93_0 : fldT Try.prog 93 0 = some (0, 25) := by kernel_rfl
theorem T.fl93_1 : fldT Try.prog 93 1 = some (2, 3) := by kernel_rfl
theorem T.fl93_2 : fldT Try.prog 93 2 = some (3, 91) := by kernel_rfl
theorem T.fl93_3 : fldT Try.prog 93 3 = some (11, 91) := by kernel_rfl
theorem T.pl93 : plT Try.prog 93 = some (some [(0, 2), (2, 1), (3, 8), (11, 8)]) := by kernel_rfl
theorem T.sz94 : szT Try.prog 94 = some 1 := by kernel_rfl
theorem T.by94 : byT Try.prog 94 = some 24 := by kernel_rfl
theorem T.ag94 : aggT Try.prog 94 = some false := by kernel_rfl
theorem T.ze94 : zeroT Try.prog 94 = some [.nilS] := by kernel_rfl
theorem T.el94 : elT Try.prog 94 = some (28, 1) := by kernel_rfl
theorem T.sz95 : szT Try.prog 95 = some 1 := by kernel_rfl
theorem T.by95 : byT Try.prog 95 = some 8 := by kernel_rfl
theorem T.ag95 : aggT Try.prog 95 = some false := by kernel_rfl
theorem T.ze95 : zeroT Try.prog 95 = some [.nilF] := by kernel_rfl
theorem T.el95 : elT Try.prog 95 = none := by kernel_rfl
theorem T.sz96 : szT Try.prog 96 = some 1 := by kernel_rfl
theorem T.by96 : byT Try.prog 96 = some 8 := by kernel_rfl
theorem T.ag96 : aggT Try.prog 96 = some false := by kernel_rfl
theorem T.ze96 : zeroT Try.prog 96 = some [.nilF] := by kernel_rfl
theorem T.el96 : elT Try.prog 96 = none := by kernel_rfl
theorem T.sz97 : szT Try.prog 97 = some 1 := by kernel_rfl
theorem T.by97 : byT Try.prog 97 = some 8 := by kernel_rfl
theorem T.ag97 : aggT Try.prog 97 = some false := by kernel_rfl
theorem T.ze97 : zeroT Try.prog 97 = some [.nilF] := by kernel_rfl
theorem T.el97 : elT Try.prog 97 = none := by kernel_rfl
theorem T.sz98 : szT Try.prog 98 = some 1 := by kernel_rfl
theorem T.by98 : byT Try.prog 98 = some 8 := by kernel_rfl
theorem T.ag98 : aggT Try.prog 98 = some false := by kernel_rfl
theorem T.ze98 : zeroT Try.prog 98 = some [.nilF] := by kernel_rfl
theorem T.el98 : elT Try.prog 98 = none := by kernel_rfl
theorem T.sz99 : szT Try.prog 99 = some 1 := by kernel_rfl
theorem T.by99 : byT Try.prog 99 = some 8 := by kernel_rfl
theorem T.ag99 : aggT Try.prog 99 = some false := by kernel_rfl
theorem T.ze99 : zeroT Try.prog 99 = some [.nilF] := by kernel_rfl
theorem T.el99 : elT Try.prog 99 = none := by kernel_rfl
theorem T.sz100 : szT Try.prog 100 = some 1 := by kernel_rfl
theorem T.by100 : byT Try.prog 100 = some 8 := by kernel_rfl
theorem T.ag100 : aggT Try.prog 100 = some false := by kernel_rfl
theorem T.ze100 : zeroT Try.prog 100 = some [.nilF] := by kernel_rfl
theorem T.el100 : elT Try.prog 100 = none := by kernel_rfl
theorem T.sz101 : szT Try.prog 101 = some 1 := by kernel_rfl
theorem T.by101 : byT Try.prog 101 = some 8 := by kernel_rfl
theorem T.ag101 : aggT Try.prog 101 = some false := by kernel_rfl
theorem T.ze101 : zeroT Try.prog 101 = some [.nilF] := by kernel_rfl
theorem T.el101 : elT Try.prog 101 = none := by kernel_rfl
theorem T.sz102 : szT Try.prog 102 = some 1 := by kernel_rfl
theorem T.by102 : byT Try.prog 102 = some 8 := by kernel_rfl
theorem T.ag102 : aggT Try.prog 102 = some false := by kernel_rfl
theorem T.ze102 : zeroT Try.prog 102 = some [.nilF] := by kernel_rfl
theorem T.el102 : elT Try.prog 102 = none := by kernel_rfl
theorem T.sz103 : szT Try.prog 103 = some 1 := by kernel_rfl
theorem T.by103 : byT Try.prog 103 = some 8 := by kernel_rfl
theorem T.ag103 : aggT Try.prog 103 = some false := by kernel_rfl
theorem T.ze103 : zeroT Try.prog 103 = some [.nilF] := by kernel_rfl
theorem T.el103 : elT Try.prog 103 = none := by kernel_rfl
theorem T.sz104 : szT Try.prog 104 = some 1 := by kernel_rfl
theorem T.by104 : byT Try.prog 104 = some 8 := by kernel_rfl
theorem T.ag104 : aggT Try.prog 104 = some false := by kernel_rfl
theorem T.ze104 : zeroT Try.prog 104 = some [.nilF] := by kernel_rfl
theorem T.el104 : elT Try.prog 104 = none := by kernel_rfl
theorem T.sz105 : szT Try.prog 105 = some 1 := by kernel_rfl
theorem T.by105 : byT Try.prog 105 = some 8 := by kernel_rfl
theorem T.ag105 : aggT Try.prog 105 = some false := by kernel_rfl
theorem T.ze105 : zeroT Try.prog 105 = some [.nilF] := by kernel_rfl
theorem T.el105 : elT Try.prog 105 = none := by kernel_rfl
theorem T.sz106 : szT Try.prog 106 = some 1 := by kernel_rfl
theorem T.by106 : byT Try.prog 106 = some 8 := by kernel_rfl
theorem T.ag106 : aggT Try.prog 106 = some false := by kernel_rfl
theorem T.ze106 : zeroT Try.prog 106 = some [.nilF] := by kernel_rfl
theorem T.el106 : elT Try.prog 106 = none := by kernel_rfl
theorem T.sz107 : szT Try.prog 107 = some 1 := by kernel_rfl
theorem T.by107 : byT Try.prog 107 = some 8 := by kernel_rfl
theorem T.ag107 : aggT Try.prog 107 = some false := by kernel_rfl
theorem T.ze107 : zeroT Try.prog 107 = some [.nilF] := by kernel_rfl
theorem T.el107 : elT Try.prog 107 = none := by kernel_rfl
theorem T.sz108 : szT Try.prog 108 = some 1 := by kernel_rfl
theorem T.by108 : byT Try.prog 108 = some 8 := by kernel_rfl
theorem T.ag108 : aggT Try.prog 108 = some false := by kernel_rfl
theorem T.ze108 : zeroT Try.prog 108 = some [.nilF] := by kernel_rfl
theorem T.el108 : elT Try.prog 108 = none := by kernel_rfl
theorem T.sz109 : szT Try.prog 109 = some 4 := by kernel_rfl
theorem T.by109 : byT Try.prog 109 = some 40 := by kernel_rfl
theorem T.ag109 : aggT Try.prog 109 = some true := by kernel_rfl
theorem T.ze109 : zeroT Try.prog 109 = some [.nilP, .nilP, .nilP, .any] := by kernel_rfl
theorem T.el109 : elT Try.prog 109 = none := by kernel_rfl
theorem T.fl109_0 : fldT Try.prog 109 0 = some (0, 17) := by kernel_rfl
theorem T.fl109_1 : fldT Try.prog 109 1 = some (1, 17) := by kernel_rfl
theorem T.fl109_2 : fldT Try.prog 109 2 = some (2, 17) := by kernel_rfl
theorem T.fl109_3 : fldT Try.prog 109 3 = some (3, 9) := by kernel_rfl
theorem T.pl109 : plT Try.prog 109 = some (some [(0, 1), (1, 1), (2, 1), (3, 1)]) := by kernel_rfl
theorem T.sz110 : szT Try.prog 110 = some 4 := by kernel_rfl
theorem T.by110 : byT Try.prog 110 = some 40 := by kernel_rfl
theorem T.ag110 : aggT Try.prog 110 = some true := by kernel_rfl
theorem T.ze110 : zeroT Try.prog 110 = some [.nilP, .nilP, .nilP, .any] := by kernel_rfl
theorem T.el110 : elT Try.prog 110 = none := by kernel_rfl
theorem T.fl110_0 : fldT Try.prog 110 0 = some (0, 17) := by kernel_rfl
theorem T.fl110_1 : fldT Try.prog 110 1 = some (1, 17) := by kernel_rfl
theorem T.fl110_2 : fldT Try.prog 110 2 = some (2, 17) := by kernel_rfl
theorem T.fl110_3 : fldT Try.prog 110 3 = some (3, 9) := by kernel_rfl
theorem T.pl110 : plT Try.prog 110 = some (some [(0, 1), (1, 1), (2, 1), (3, 1)]) := by kernel_rfl
theorem T.sz111 : szT Try.prog 111 = some 0 := by kernel_rfl
theorem T.by111 : byT Try.prog 111 = some 0 := by kernel_rfl
theorem T.ag111 : aggT Try.prog 111 = some true := by kernel_rfl
theorem T.ze111 : zeroT Try.prog 111 = some [] := by kernel_rfl
theorem T.el111 : elT Try.prog 111 = none := by kernel_rfl
theorem T.ar111 : arT Try.prog 111 = some (0, 16, 1) := by kernel_rfl
theorem T.pl111 : plT Try.prog 111 = some none := by kernel_rfl
theorem T.sz112 : szT Try.prog 112 = some 0 := by kernel_rfl
theorem T.by112 : byT Try.prog 112 = some 0 := by kernel_rfl
theorem T.ag112 : aggT Try.prog 112 = some true := by kernel_rfl
theorem T.ze112 : zeroT Try.prog 112 = some [] := by kernel_rfl
theorem T.el112 : elT Try.prog 112 = none := by kernel_rfl
theorem T.pl112 : plT Try.prog 112 = some (some [(0, 0)]) := by kernel_rfl
theorem T.sz113 : szT Try.prog 113 = some 0 := by kernel_rfl
theorem T.by113 : byT Try.prog 113 = some 0 := by kernel_rfl
theorem T.ag113 : aggT Try.prog 113 = some true := by kernel_rfl
theorem T.ze113 : zeroT Try.prog 113 = some [] := by kernel_rfl
theorem T.el113 : elT Try.prog 113 = none := by kernel_rfl
theorem T.pl113 : plT Try.prog 113 = some (some [(0, 0)]) := by kernel_rfl
theorem T.sz114 : szT Try.prog 114 = some 1 := by kernel_rfl
theorem T.by114 : byT Try.prog 114 = some 8 := by kernel_rfl
theorem T.ag114 : aggT Try.prog 114 = some false := by kernel_rfl
theorem T.ze114 : zeroT Try.prog 114 = some [.nilF] := by kernel_rfl
theorem T.el114 : elT Try.prog 114 = none := by kernel_rfl
theorem T.sz118 : szT Try.prog 118 = some 1 := by kernel_rfl
theorem T.by118 : byT Try.prog 118 = some 8 := by kernel_rfl
theorem T.ag118 : aggT Try.prog 118 = some false := by kernel_rfl
theorem T.ze118 : zeroT Try.prog 118 = some [.nilF] := by kernel_rfl
theorem T.el118 : elT Try.prog 118 = none := by kernel_rfl
theorem T.sz119 : szT Try.prog 119 = some 1 := by kernel_rfl
theorem T.by119 : byT Try.prog 119 = some 8 := by kernel_rfl
theorem T.ag119 : aggT Try.prog 119 = some false := by kernel_rfl
theorem T.ze119 : zeroT Try.prog 119 = some [.nilP] := by kernel_rfl
theorem T.el119 : elT Try.prog 119 = none := by kernel_rfl
theorem T.sz122 : szT Try.prog 122 = some 11 := by kernel_rfl
theorem T.by122 : byT Try.prog 122 = some 48 := by kernel_rfl
theorem T.ag122 : aggT Try.prog 122 = some true := by kernel_rfl
theorem T.ze122 : zeroT Try.prog 122 = some [(.int .u64 0), (.int .u64 0), (.int .u32 0), (.int .u8 0), (.int .u8 0), (.int .u8 0), (.int .u8 0), .nilF, .nilP, (.int .i32 0), (.int .i32 0)] := by kernel_rfl
theorem T.el122 : elT Try.prog 122 = none := by kernel_rfl
theorem T.fl122_0 : fldT Try.prog 122 0 = some (0, 12) := by kernel_rfl
theorem T.fl122_1 : fldT Try.prog 122 1 = some (1, 12) := by kernel_rfl
theorem T.fl122_2 : fldT Try.prog 122 2 = some (2, 115) := by kernel_rfl
theorem T.fl122_3 : fldT Try.prog 122 3 = some (3, 116) := by kernel_rfl
theorem T.fl122_4 : fldT Try.prog 122 4 = some (4, 5) := by kernel_rfl
theorem T.fl122_5 : fldT Try.prog 122 5 = some (5, 5) := by kernel_rfl
theorem T.fl122_6 : fldT Try.prog 122 6 = some (6, 117) := by kernel_rfl
theorem T.fl122_7 : fldT Try.prog 122 7 = some (7, 118) := by kernel_rfl
theorem T.fl122_8 : fldT Try.prog 122 8 = some (8, 119) := by kernel_rfl
theorem T.fl122_9 : fldT Try.prog 122 9 = some (9, 120) := by kernel_rfl
theorem T.fl122_10 : fldT Try.prog 122 10 = some (10, 121) := by kernel_rfl
theorem T.pl122 : plT Try.prog 122 = some (some [(0, 1), (1, 1), (2, 1), (3, 1), (4, 1), (5, 1), (6, 1), (7, 1), (8, 1), (9, 1), (10, 1)]) := by kernel_rfl
theorem T.sz123 : szT Try.prog 123 = some 11 := by kernel_rfl
theorem T.by123 : byT Try.prog 123 = some 48 := by kernel_rfl
theorem T.ag123 : aggT Try.prog 123 = some true := by kernel_rfl
theorem T.ze123 : zeroT Try.prog 123 = some [(.int .u64 0), (.int .u64 0), (.int .u32 0), (.int .u8 0), (.int .u8 0), (.int .u8 0), (.int .u8 0), .nilF, .nilP, (.int .i32 0), (.int .i32 0)] := by kernel_rfl
theorem T.el123 : elT Try.prog 123 = none := by kernel_rfl
theorem T.fl123_0 : fldT Try.prog 123 0 = some (0, 12) := by kernel_rfl
theorem T.fl123_1 : fldT Try.prog 123 1 = some (1, 12) := by kernel_rfl
theorem T.fl123_2 : fldT Try.prog 123 2 = some (2, 115) := by kernel_rfl
theorem T.fl123_3 : fldT Try.prog 123 3 = some (3, 116) := by kernel_rfl
theorem T.fl123_4 : fldT Try.prog 123 4 = some (4, 5) := by kernel_rfl
theorem T.fl123_5 : fldT Try.prog 123 5 = some (5, 5) := by kernel_rfl
theorem T.fl123_6 : fldT Try.prog 123 6 = some (6, 117) := by kernel_rfl
theorem T.fl123_7 : fldT Try.prog 123 7 = some (7, 118) := by kernel_rfl
theorem T.fl123_8 : fldT Try.prog 123 8 = some (8, 119) := by kernel_rfl
theorem T.fl123_9 : fldT Try.prog 123 9 = some (9, 120) := by kernel_rfl
theorem T.fl123_10 : fldT Try.prog 123 10 = some (10, 121) := by kernel_rfl
theorem T.pl123 : plT Try.prog 123 = some (some [(0, 1), (1, 1), (2, 1), (3, 1), (4, 1), (5, 1), (6, 1), (7, 1), (8, 1), (9, 1), (10, 1)]) := by kernel_rfl
attribute [go_sem] T.sz1 T.by1 T.ag1 T.ze1 T.el1 T.sz2 T.by2 T.ag2 T.ze2 T.el2 T.bo2 T.sz3 T.by3 T.ag3 T.ze3 T.el3 T.bo3 T.sz4 T.by4 T.ag4 T.ze4 T.el4 T.bo4 T.sz12 T.by12 T.ag12 T.ze12 T.el12 T.bo12 T.sz15 T.by15 T.ag15 T.ze15 T.el15 T.sz16 T.by16 T.ag16 T.ze16 T.el16 T.sz17
attribute [go_sem] T.by17 T.ag17 T.ze17 T.el17 T.sz18 T.by18 T.ag18 T.ze18 T.el18 T.fl18_0 T.pl18 T.sz19 T.by19 T.ag19 T.ze19 T.el19 T.fl19_0 T.pl19 T.sz22 T.by22 T.ag22 T.ze22 T.el22 T.sz23 T.by23 T.ag23 T.ze23 T.el23 T.sz24 T.by24 T.ag24 T.ze24 T.el24 T.fl24_0 T.fl24_1 T.pl24 T.sz25 T.by25 T.ag25 T.ze25
attribute [go_sem] T.el25 T.fl25_0 T.fl25_1 T.pl25 T.sz26 T.by26 T.ag26 T.ze26 T.el26 T.fl26_0 T.fl26_1 T.fl26_2 T.pl26 T.fi26 T.fn26 T.sz27 T.by27 T.ag27 T.ze27 T.el27 T.fl27_0 T.fl27_1 T.fl27_2 T.pl27 T.fi27 T.fn27 T.sz28 T.by28 T.ag28 T.ze28 T.el28 T.sz29 T.by29 T.ag29 T.ze29 T.el29 T.sz30 T.by30 T.ag30 T.ze30
attribute [go_sem] T.el30 T.sz31 T.by31 T.ag31 T.ze31 T.el31 T.sz32 T.by32 T.ag32 T.ze32 T.el32 T.sz33 T.by33 T.ag33 T.ze33 T.el33 T.bo33 T.sz35 T.by35 T.ag35 T.ze35 T.el35 T.sz36 T.by36 T.ag36 T.ze36 T.el36 T.sz37 T.by37 T.ag37 T.ze37 T.el37 T.sz38 T.by38 T.ag38 T.ze38 T.el38 T.sz39 T.by39 T.ag39
attribute [go_sem] T.ze39 T.el39 T.sz40 T.by40 T.ag40 T.ze40 T.el40 T.fl40_0 T.fl40_1 T.pl40 T.fi40 T.fn40 T.sz41 T.by41 T.ag41 T.ze41 T.el41 T.fl41_0 T.fl41_1 T.pl41 T.fi41 T.fn41 T.sz42 T.by42 T.ag42 T.ze42 T.el42 T.sz43 T.by43 T.ag43 T.ze43 T.el43 T.sz44 T.by44 T.ag44 T.ze44 T.el44 T.sz45 T.by45 T.ag45
attribute [go_sem] T.ze45 T.el45 T.fl45_0 T.fl45_1 T.fl45_2 T.fl45_3 T.pl45 T.fi45 T.fn45 T.sz46 T.by46 T.ag46 T.ze46 T.el46 T.fl46_0 T.fl46_1 T.fl46_2 T.fl46_3 T.pl46 T.fi46 T.fn46 T.sz47 T.by47 T.ag47 T.ze47 T.el47 T.sz48 T.by48 T.ag48 T.ze48 T.el48 T.sz49 T.by49 T.ag49 T.ze49 T.el49 T.sz50 T.by50 T.ag50 T.ze50
attribute [go_sem] T.el50 T.sz51 T.by51 T.ag51 T.ze51 T.el51 T.sz52 T.by52 T.ag52 T.ze52 T.el52 T.fl52_0 T.fl52_1 T.pl52 T.fi52 T.fn52 T.sz53 T.by53 T.ag53 T.ze53 T.el53 T.fl53_0 T.fl53_1 T.pl53 T.fi53 T.fn53 T.sz55 T.by55 T.ag55 T.ze55 T.el55 T.sz56 T.by56 T.ag56 T.ze56 T.el56 T.fl56_0 T.fl56_1 T.fl56_2 T.pl56
attribute [go_sem] T.fi56 T.fn56 T.sz57 T.by57 T.ag57 T.ze57 T.el57 T.fl57_0 T.fl57_1 T.fl57_2 T.pl57 T.fi57 T.fn57 T.sz59 T.by59 T.ag59 T.ze59 T.el59 T.sz61 T.by61 T.ag61 T.ze61 T.el61 T.sz62 T.by62 T.ag62 T.ze62 T.el62 T.sz63 T.by63 T.ag63 T.ze63 T.el63 T.sz64 T.by64 T.ag64 T.ze64 T.el64 T.sz66 T.by66
attribute [go_sem] T.ag66 T.ze66 T.el66 T.sz67 T.by67 T.ag67 T.ze67 T.el67 T.sz69 T.by69 T.ag69 T.ze69 T.el69 T.sz70 T.by70 T.ag70 T.ze70 T.el70 T.sz71 T.by71 T.ag71 T.ze71 T.el71 T.sz73 T.by73 T.ag73 T.ze73 T.el73 T.sz74 T.by74 T.ag74 T.ze74 T.el74 T.sz75 T.by75 T.ag75 T.ze75 T.el75 T.fl75_0 T.fl75_1
attribute [go_sem] T.pl75 T.sz76 T.by76 T.ag76 T.ze76 T.el76 T.fl76_0 T.fl76_1 T.pl76 T.sz77 T.by77 T.ag77 T.ze77 T.el77 T.sz78 T.by78 T.ag78 T.ze78 T.el78 T.sz79 T.by79 T.ag79 T.ze79 T.el79 T.sz80 T.by80 T.ag80 T.ze80 T.el80 T.sz81 T.by81 T.ag81 T.ze81 T.el81 T.sz82 T.by82 T.ag82 T.ze82 T.el82 T.sz83
attribute [go_sem] T.by83 T.ag83 T.ze83 T.el83 T.sz84 T.by84 T.ag84 T.ze84 T.el84 T.sz85 T.by85 T.ag85 T.ze85 T.el85 T.sz86 T.by86 T.ag86 T.ze86 T.el86 T.sz87 T.by87 T.ag87 T.ze87 T.el87 T.sz88 T.by88 T.ag88 T.ze88 T.el88 T.sz89 T.by89 T.ag89 T.ze89 T.el89 T.sz90 T.by90 T.ag90 T.ze90 T.el90 T.sz91
attribute [go_sem] T.by91 T.ag91 T.ze91 T.el91 T.ar91 T.pl91 T.sz92 T.by92 T.ag92 T.ze92 T.el92 T.fl92_0 T.fl92_1 T.fl92_2 T.fl92_3 T.pl92 T.sz93 T.by93 T.ag93 T.ze93 T.el93 T.fl93_0 T.fl93_1 T.fl93_2 T.fl93_3 T.pl93 T.sz94 T.by94 T.ag94 T.ze94 T.el94 T.sz95 T.by95 T.ag95 T.ze95 T.el95 T.sz96 T.by96 T.ag96 T.ze96
attribute [go_sem] T.el96 T.sz97 T.by97 T.ag97 T.ze97 T.el97 T.sz98 T.by98 T.ag98 T.ze98 T.el98 T.sz99 T.by99 T.ag99 T.ze99 T.el99 T.sz100 T.by100 T.ag100 T.ze100 T.el100 T.sz101 T.by101 T.ag101 T.ze101 T.el101 T.sz102 T.by102 T.ag102 T.ze102 T.el102 T.sz103 T.by103 T.ag103 T.ze103 T.el103 T.sz104 T.by104 T.ag104 T.ze104
attribute [go_sem] T.el104 T.sz105 T.by105 T.ag105 T.ze105 T.el105 T.sz106 T.by106 T.ag106 T.ze106 T.el106 T.sz107 T.by107 T.ag107 T.ze107 T.el107 T.sz108 T.by108 T.ag108 T.ze108 T.el108 T.sz109 T.by109 T.ag109 T.ze109 T.el109 T.fl109_0 T.fl109_1 T.fl109_2 T.fl109_3 T.pl109 T.sz110 T.by110 T.ag110 T.ze110 T.el110 T.fl110_0 T.fl110_1 T.fl110_2 T.fl110_3
attribute [go_sem] T.pl110 T.sz111 T.by111 T.ag111 T.ze111 T.el111 T.ar111 T.pl111 T.sz112 T.by112 T.ag112 T.ze112 T.el112 T.pl112 T.sz113 T.by113 T.ag113 T.ze113 T.el113 T.pl113 T.sz114 T.by114 T.ag114 T.ze114 T.el114 T.sz118 T.by118 T.ag118 T.ze118 T.el118 T.sz119 T.by119 T.ag119 T.ze119 T.el119 T.sz122 T.by122 T.ag122 T.ze122 T.el122
attribute [go_sem] T.fl122_0 T.fl122_1 T.fl122_2 T.fl122_3 T.fl122_4 T.fl122_5 T.fl122_6 T.fl122_7 T.fl122_8 T.fl122_9 T.fl122_10 T.pl122 T.sz123 T.by123 T.ag123 T.ze123 T.el123 T.fl123_0 T.fl123_1 T.fl123_2 T.fl123_3 T.fl123_4 T.fl123_5 T.fl123_6 T.fl123_7 T.fl123_8 T.fl123_9 T.fl123_10 T.pl123
end Go.Proofs.Ytllmohmgakdbdaa
