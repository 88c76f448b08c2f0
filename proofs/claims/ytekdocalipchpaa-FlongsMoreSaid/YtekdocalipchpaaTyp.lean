/- Contracts of functions of the given program, without a condition beyond those that each theorem states; they lead to the given statement. -/
import Derived.Test.YtekdocalipchpaaFlB
import Derived.Test.YtekdocalipchpaaProg
namespace Go.Proofs.Ytekdocalipchpaa
open Go Go.Fl
theorem T.sz1 : szT Try.prog 1 = some 1 := by kernel_rfl
theorem T.by1 : byT Try.prog 1 = some 8 := by kernel_rfl
theorem T.ag1 : aggT Try.prog 1 = some false := by kernel_rfl
theorem T.ze1 : zeroT Try.prog 1 = some [.nilF] := by kernel_rfl
theorem T.el1 : elT Try.prog 1 = none := by kernel_rfl
theorem T.sz2 : szT Try.prog 2 = some 1 := by kernel_rfl
theorem T.by2 : byT Try.prog 2 = some 8 := by kernel_rfl
theorem T.ag2 : aggT Try.prog 2 = some false := by kernel_rfl
theorem T.ze2 : zeroT Try.prog 2 = some [(.int .i64 0)] := by kernel_rfl
theorem T.el2 : elT Try.prog 2 = none := by kernel_rfl
theorem T.bo2 : boolT Try.prog 2 = false := by kernel_rfl
theorem T.sz3 : szT Try.prog 3 = some 1 := by kernel_rfl
theorem T.by3 : byT Try.prog 3 = some 8 := by kernel_rfl
theorem T.ag3 : aggT Try.prog 3 = some false := by kernel_rfl
theorem T.ze3 : zeroT Try.prog 3 = some [(.int .i64 0)] := by kernel_rfl
theorem T.el3 : elT Try.prog 3 = none := by kernel_rfl
theorem T.bo3 : boolT Try.prog 3 = false := by kernel_rfl
theorem T.sz4 : szT Try.prog 4 = some 1 := by kernel_rfl
theorem T.by4 : byT Try.prog 4 = some 1 := by kernel_rfl
theorem T.ag4 : aggT Try.prog 4 = some false := by kernel_rfl
theorem T.ze4 : zeroT Try.prog 4 = some [.bool false] := by kernel_rfl
theorem T.el4 : elT Try.prog 4 = none := by kernel_rfl
theorem T.bo4 : boolT Try.prog 4 = true := by kernel_rfl
theorem T.sz12 : szT Try.prog 12 = some 1 := by kernel_rfl
theorem T.by12 : byT Try.prog 12 = some 8 := by kernel_rfl
theorem T.ag12 : aggT Try.prog 12 = some false := by kernel_rfl
theorem T.ze12 : zeroT Try.prog 12 = some [(.int .u64 0)] := by kernel_rfl
theorem T.el12 : elT Try.prog 12 = none := by kernel_rfl
theorem T.bo12 : boolT Try.prog 12 = false := by kernel_rfl
theorem T.sz15 : szT Try.prog 15 = some 1 := by kernel_rfl
theorem T.by15 : byT Try.prog 15 = some 8 := by kernel_rfl
theorem T.ag15 : aggT Try.prog 15 = some false := by kernel_rfl
theorem T.ze15 : zeroT Try.prog 15 = some [.nilP] := by kernel_rfl
theorem T.el15 : elT Try.prog 15 = none := by kernel_rfl
theorem T.sz16 : szT Try.prog 16 = some 1 := by kernel_rfl
theorem T.by16 : byT Try.prog 16 = some 8 := by kernel_rfl
theorem T.ag16 : aggT Try.prog 16 = some false := by kernel_rfl
theorem T.ze16 : zeroT Try.prog 16 = some [.nilP] := by kernel_rfl
theorem T.el16 : elT Try.prog 16 = none := by kernel_rfl
theorem T.sz17 : szT Try.prog 17 = some 1 := by kernel_rfl
theorem T.by17 : byT Try.prog 17 = some 8 := by kernel_rfl
theorem T.ag17 : aggT Try.prog 17 = some false := by kernel_rfl
theorem T.ze17 : zeroT Try.prog 17 = some [.nilP] := by kernel_rfl
theorem T.el17 : elT Try.prog 17 = none := by kernel_rfl
theorem T.sz18 : szT Try.prog 18 = some 1 := by kernel_rfl
theorem T.by18 : byT Try.prog 18 = some 8 := by kernel_rfl
theorem T.ag18 : aggT Try.prog 18 = some true := by kernel_rfl
theorem T.ze18 : zeroT Try.prog 18 = some [.nilP] := by kernel_rfl
theorem T.el18 : elT Try.prog 18 = none := by kernel_rfl
theorem T.fl18_0 : fldT Try.prog 18 0 = some (0, 17) := by kernel_rfl
theorem T.pl18 : plT Try.prog 18 = some (some [(0, 1)]) := by kernel_rfl
theorem T.sz19 : szT Try.prog 19 = some 1 := by kernel_rfl
theorem T.by19 : byT Try.prog 19 = some 8 := by kernel_rfl
theorem T.ag19 : aggT Try.prog 19 = some true := by kernel_rfl
theorem T.ze19 : zeroT Try.prog 19 = some [.nilP] := by kernel_rfl
theorem T.el19 : elT Try.prog 19 = none := by kernel_rfl
theorem T.fl19_0 : fldT Try.prog 19 0 = some (0, 17) := by kernel_rfl
theorem T.pl19 : plT Try.prog 19 = some (some [(0, 1)]) := by kernel_rfl
theorem T.sz22 : szT Try.prog 22 = some 1 := by kernel_rfl
theorem T.by22 : byT Try.prog 22 = some 24 := by kernel_rfl
theorem T.ag22 : aggT Try.prog 22 = some false := by kernel_rfl
theorem T.ze22 : zeroT Try.prog 22 = some [.nilS] := by kernel_rfl
theorem T.el22 : elT Try.prog 22 = some (51, 3) := by kernel_rfl
theorem T.sz23 : szT Try.prog 23 = some 1 := by kernel_rfl
theorem T.by23 : byT Try.prog 23 = some 24 := by kernel_rfl
theorem T.ag23 : aggT Try.prog 23 = some false := by kernel_rfl
theorem T.ze23 : zeroT Try.prog 23 = some [.nilS] := by kernel_rfl
theorem T.el23 : elT Try.prog 23 = some (24, 1) := by kernel_rfl
theorem T.sz24 : szT Try.prog 24 = some 1 := by kernel_rfl
theorem T.by24 : byT Try.prog 24 = some 24 := by kernel_rfl
theorem T.ag24 : aggT Try.prog 24 = some false := by kernel_rfl
theorem T.ze24 : zeroT Try.prog 24 = some [.nilS] := by kernel_rfl
theorem T.el24 : elT Try.prog 24 = some (3, 1) := by kernel_rfl
theorem T.sz25 : szT Try.prog 25 = some 4 := by kernel_rfl
theorem T.by25 : byT Try.prog 25 = some 80 := by kernel_rfl
theorem T.ag25 : aggT Try.prog 25 = some true := by kernel_rfl
theorem T.ze25 : zeroT Try.prog 25 = some [.nilS, .nilS, .nilS, (.int .i64 0)] := by kernel_rfl
theorem T.el25 : elT Try.prog 25 = none := by kernel_rfl
theorem T.fl25_0 : fldT Try.prog 25 0 = some (0, 22) := by kernel_rfl
theorem T.fl25_1 : fldT Try.prog 25 1 = some (1, 23) := by kernel_rfl
theorem T.fl25_2 : fldT Try.prog 25 2 = some (2, 24) := by kernel_rfl
theorem T.fl25_3 : fldT Try.prog 25 3 = some (3, 3) := by kernel_rfl
theorem T.pl25 : plT Try.prog 25 = some (some [(0, 1), (1, 1), (2, 1), (3, 1)]) := by kernel_rfl
theorem T.sz26 : szT Try.prog 26 = some 4 := by kernel_rfl
theorem T.by26 : byT Try.prog 26 = some 80 := by kernel_rfl
theorem T.ag26 : aggT Try.prog 26 = some true := by kernel_rfl
theorem T.ze26 : zeroT Try.prog 26 = some [.nilS, .nilS, .nilS, (.int .i64 0)] := by kernel_rfl
theorem T.el26 : elT Try.prog 26 = none := by kernel_rfl
theorem T.fl26_0 : fldT Try.prog 26 0 = some (0, 22) := by kernel_rfl
theorem T.fl26_1 : fldT Try.prog 26 1 = some (1, 23) := by kernel_rfl
theorem T.fl26_2 : fldT Try.prog 26 2 = some (2, 24) := by kernel_rfl
theorem T.fl26_3 : fldT Try.prog 26 3 = some (3, 3) := by kernel_rfl
theorem T.pl26 : plT Try.prog 26 = some (some [(0, 1), (1, 1), (2, 1), (3, 1)]) := by kernel_rfl
theorem T.sz27 : szT Try.prog 27 = some 1 := by kernel_rfl
theorem T.by27 : byT Try.prog 27 = some 8 := by kernel_rfl
theorem T.ag27 : aggT Try.prog 27 = some false := by kernel_rfl
theorem T.ze27 : zeroT Try.prog 27 = some [.nilF] := by kernel_rfl
theorem T.el27 : elT Try.prog 27 = none := by kernel_rfl
theorem T.sz28 : szT Try.prog 28 = some 1 := by kernel_rfl
theorem T.by28 : byT Try.prog 28 = some 8 := by kernel_rfl
theorem T.ag28 : aggT Try.prog 28 = some false := by kernel_rfl
theorem T.ze28 : zeroT Try.prog 28 = some [.nilF] := by kernel_rfl
theorem T.el28 : elT Try.prog 28 = none := by kernel_rfl
theorem T.sz29 : szT Try.prog 29 = some 1 := by kernel_rfl
theorem T.by29 : byT Try.prog 29 = some 8 := by kernel_rfl
theorem T.ag29 : aggT Try.prog 29 = some false := by kernel_rfl
theorem T.ze29 : zeroT Try.prog 29 = some [.nilF] := by kernel_rfl
theorem T.el29 : elT Try.prog 29 = none := by kernel_rfl
theorem T.sz30 : szT Try.prog 30 = some 1 := by kernel_rfl
theorem T.by30 : byT Try.prog 30 = some 8 := by kernel_rfl
theorem T.ag30 : aggT Try.prog 30 = some false := by kernel_rfl
theorem T.ze30 : zeroT Try.prog 30 = some [.nilF] := by kernel_rfl
theorem T.el30 : elT Try.prog 30 = none := by kernel_rfl
theorem T.sz31 : szT Try.prog 31 = some 1 := by kernel_rfl
theorem T.by31 : byT Try.prog 31 = some 24 := by kernel_rfl
theorem T.ag31 : aggT Try.prog 31 = some false := by kernel_rfl
theorem T.ze31 : zeroT Try.prog 31 = some [.nilS] := by kernel_rfl
theorem T.el31 : elT Try.prog 31 = some (37, 2) := by kernel_rfl
theorem T.sz33 : szT Try.prog 33 = some 1 := by kernel_rfl
theorem T.by33 : byT Try.prog 33 = some 8 := by kernel_rfl
theorem T.ag33 : aggT Try.prog 33 = some false := by kernel_rfl
theorem T.ze33 : zeroT Try.prog 33 = some [.nilF] := by kernel_rfl
theorem T.el33 : elT Try.prog 33 = none := by kernel_rfl
theorem T.sz34 : szT Try.prog 34 = some 1 := by kernel_rfl
theorem T.by34 : byT Try.prog 34 = some 8 := by kernel_rfl
theorem T.ag34 : aggT Try.prog 34 = some false := by kernel_rfl
theorem T.ze34 : zeroT Try.prog 34 = some [.nilF] := by kernel_rfl
theorem T.el34 : elT Try.prog 34 = none := by kernel_rfl
theorem T.sz35 : szT Try.prog 35 = some 1 := by kernel_rfl
theorem T.by35 : byT Try.prog 35 = some 8 := by kernel_rfl
theorem T.ag35 : aggT Try.prog 35 = some false := by kernel_rfl
theorem T.ze35 : zeroT Try.prog 35 = some [.nilF] := by kernel_rfl
theorem T.el35 : elT Try.prog 35 = none := by kernel_rfl
theorem T.sz36 : szT Try.prog 36 = some 2 := by kernel_rfl
theorem T.by36 : byT Try.prog 36 = some 16 := by kernel_rfl
theorem T.ag36 : aggT Try.prog 36 = some true := by kernel_rfl
theorem T.ze36 : zeroT Try.prog 36 = some [(.int .i64 0), (.int .i64 0)] := by kernel_rfl
theorem T.el36 : elT Try.prog 36 = none := by kernel_rfl
theorem T.fl36_0 : fldT Try.prog 36 0 = some (0, 3) := by kernel_rfl
theorem T.fl36_1 : fldT Try.prog 36 1 = some (1, 3) := by kernel_rfl
theorem T.pl36 : plT Try.prog 36 = some (some [(0, 1), (1, 1)]) := by kernel_rfl
theorem T.fi36 : flatI Try.prog 36 = true := by kernel_rfl
theorem T.fn36 : flatN Try.prog 36 = 2 := by kernel_rfl
theorem T.sz37 : szT Try.prog 37 = some 2 := by kernel_rfl
theorem T.by37 : byT Try.prog 37 = some 16 := by kernel_rfl
theorem T.ag37 : aggT Try.prog 37 = some true := by kernel_rfl
theorem T.ze37 : zeroT Try.prog 37 = some [(.int .i64 0), (.int .i64 0)] := by kernel_rfl
theorem T.el37 : elT Try.prog 37 = none := by kernel_rfl
theorem T.fl37_0 : fldT Try.prog 37 0 = some (0, 3) := by kernel_rfl
theorem T.fl37_1 : fldT Try.prog 37 1 = some (1, 3) := by kernel_rfl
theorem T.pl37 : plT Try.prog 37 = some (some [(0, 1), (1, 1)]) := by kernel_rfl
theorem T.fi37 : flatI Try.prog 37 = true := by kernel_rfl
theorem T.fn37 : flatN Try.prog 37 = 2 := by kernel_rfl
theorem T.sz38 : szT Try.prog 38 = some 1 := by kernel_rfl
theorem T.by38 : byT Try.prog 38 = some 8 := by kernel_rfl
theorem T.ag38 : aggT Try.prog 38 = some false := by kernel_rfl
theorem T.ze38 : zeroT Try.prog 38 = some [.nilF] := by kernel_rfl
theorem T.el38 : elT Try.prog 38 = none := by kernel_rfl
theorem T.sz39 : szT Try.prog 39 = some 1 := by kernel_rfl
theorem T.by39 : byT Try.prog 39 = some 8 := by kernel_rfl
theorem T.ag39 : aggT Try.prog 39 = some false := by kernel_rfl
theorem T.ze39 : zeroT Try.prog 39 = some [.nilF] := by kernel_rfl
theorem T.el39 : elT Try.prog 39 = none := by kernel_rfl
theorem T.sz40 : szT Try.prog 40 = some 1 := by kernel_rfl
theorem T.by40 : byT Try.prog 40 = some 8 := by kernel_rfl
theorem T.ag40 : aggT Try.prog 40 = some false := by kernel_rfl
theorem T.ze40 : zeroT Try.prog 40 = some [(.int .i64 0)] := by kernel_rfl
theorem T.el40 : elT Try.prog 40 = none := by kernel_rfl
theorem T.bo40 : boolT Try.prog 40 = false := by kernel_rfl
theorem T.sz42 : szT Try.prog 42 = some 1 := by kernel_rfl
theorem T.by42 : byT Try.prog 42 = some 8 := by kernel_rfl
theorem T.ag42 : aggT Try.prog 42 = some false := by kernel_rfl
theorem T.ze42 : zeroT Try.prog 42 = some [.nilF] := by kernel_rfl
theorem T.el42 : elT Try.prog 42 = none := by kernel_rfl
theorem T.sz43 : szT Try.prog 43 = some 1 := by kernel_rfl
theorem T.by43 : byT Try.prog 43 = some 8 := by kernel_rfl
theorem T.ag43 : aggT Try.prog 43 = some false := by kernel_rfl
theorem T.ze43 : zeroT Try.prog 43 = some [.nilF] := by kernel_rfl
theorem T.el43 : elT Try.prog 43 = none := by kernel_rfl
theorem T.sz44 : szT Try.prog 44 = some 1 := by kernel_rfl
theorem T.by44 : byT Try.prog 44 = some 8 := by kernel_rfl
theorem T.ag44 : aggT Try.prog 44 = some false := by kernel_rfl
theorem T.ze44 : zeroT Try.prog 44 = some [.nilF] := by kernel_rfl
theorem T.el44 : elT Try.prog 44 = none := by kernel_rfl
theorem T.sz45 : szT Try.prog 45 = some 1 := by kernel_rfl
theorem T.by45 : byT Try.prog 45 = some 8 := by kernel_rfl
theorem T.ag45 : aggT Try.prog 45 = some false := by kernel_rfl
theorem T.ze45 : zeroT Try.prog 45 = some [.nilF] := by kernel_rfl
theorem T.el45 : elT Try.prog 45 = none := by kernel_rfl
theorem T.sz46 : szT Try.prog 46 = some 1 := by kernel_rfl
theorem T.by46 : byT Try.prog 46 = some 8 := by kernel_rfl
theorem T.ag46 : aggT Try.prog 46 = some false := by kernel_rfl
theorem T.ze46 : zeroT Try.prog 46 = some [.nilF] := by kernel_rfl
theorem T.el46 : elT Try.prog 46 = none := by kernel_rfl
theorem T.sz47 : szT Try.prog 47 = some 1 := by kernel_rfl
theorem T.by47 : byT Try.prog 47 = some 8 := by kernel_rfl
theorem T.ag47 : aggT Try.prog 47 = some false := by kernel_rfl
theorem T.ze47 : zeroT Try.prog 47 = some [.nilF] := by kernel_rfl
theorem T.el47 : elT Try.prog 47 = none := by kernel_rfl
theorem T.sz48 : szT Try.prog 48 = some 1 := by kernel_rfl
theorem T.by48 : byT Try.prog 48 = some 8 := by kernel_rfl
theorem T.ag48 : aggT Try.prog 48 = some false := by kernel_rfl
theorem T.ze48 : zeroT Try.prog 48 = some [.nilF] := by kernel_rfl
theorem T.el48 : elT Try.prog 48 = none := by kernel_rfl
theorem T.sz49 : szT Try.prog 49 = some 1 := by kernel_rfl
theorem T.by49 : byT Try.prog 49 = some 8 := by kernel_rfl
theorem T.ag49 : aggT Try.prog 49 = some false := by kernel_rfl
theorem T.ze49 : zeroT Try.prog 49 = some [.nilF] := by kernel_rfl
theorem T.el49 : elT Try.prog 49 = none := by kernel_rfl
theorem T.sz50 : szT Try.prog 50 = some 3 := by kernel_rfl
theorem T.by50 : byT Try.prog 50 = some 24 := by kernel_rfl
theorem T.ag50 : aggT Try.prog 50 = some true := by kernel_rfl
theorem T.ze50 : zeroT Try.prog 50 = some [(.int .i64 0), (.int .i64 0), (.int .i64 0)] := by kernel_rfl
theorem T.el50 : elT Try.prog 50 = none := by kernel_rfl
theorem T.fl50_0 : fldT Try.prog 50 0 = some (0, 3) := by kernel_rfl
theorem T.fl50_1 : fldT Try.prog 50 1 = some (1, 3) := by kernel_rfl
theorem T.fl50_2 : fldT Try.prog 50 2 = some (2, 3) := by kernel_rfl
theorem T.pl50 : plT Try.prog 50 = some (some [(0, 1), (1, 1), (2, 1)]) := by kernel_rfl
theorem T.fi50 : flatI Try.prog 50 = true := by kernel_rfl
theorem T.fn50 : flatN Try.prog 50 = 3 := by kernel_rfl
theorem T.sz51 : szT Try.prog 51 = some 3 := by kernel_rfl
theorem T.by51 : byT Try.prog 51 = some 24 := by kernel_rfl
theorem T.ag51 : aggT Try.prog 51 = some true := by kernel_rfl
theorem T.ze51 : zeroT Try.prog 51 = some [(.int .i64 0), (.int .i64 0), (.int .i64 0)] := by kernel_rfl
theorem T.el51 : elT Try.prog 51 = none := by kernel_rfl
theorem T.fl51_0 : fldT Try.prog 51 0 = some (0, 3) := by kernel_rfl
theorem T.fl51_1 : fldT Try.prog 51 1 = some (1, 3) := by kernel_rfl
theorem T.fl51_2 : fldT Try.prog 51 2 = some (2, 3) := by kernel_rfl
theorem T.pl51 : plT Try.prog 51 = some (some [(0, 1), (1, 1), (2, 1)]) := by kernel_rfl
theorem T.fi51 : flatI Try.prog 51 = true := by kernel_rfl
theorem T.fn51 : flatN Try.prog 51 = 3 := by kernel_rfl
theorem T.sz53 : szT Try.prog 53 = some 1 := by kernel_rfl
theorem T.by53 : byT Try.prog 53 = some 8 := by kernel_rfl
theorem T.ag53 : aggT Try.prog 53 = some false := by kernel_rfl
theorem T.ze53 : zeroT Try.prog 53 = some [.nilF] := by kernel_rfl
theorem T.el53 : elT Try.prog 53 = none := by kernel_rfl
theorem T.sz54 : szT Try.prog 54 = some 1 := by kernel_rfl
theorem T.by54 : byT Try.prog 54 = some 8 := by kernel_rfl
theorem T.ag54 : aggT Try.prog 54 = some false := by kernel_rfl
theorem T.ze54 : zeroT Try.prog 54 = some [.nilF] := by kernel_rfl
theorem T.el54 : elT Try.prog 54 = none := by kernel_rfl
theorem T.sz56 : szT Try.prog 56 = some 1 := by kernel_rfl
theorem T.by56 : byT Try.prog 56 = some 8 := by kernel_rfl
theorem T.ag56 : aggT Try.prog 56 = some false := by kernel_rfl
theorem T.ze56 : zeroT Try.prog 56 = some [.nilF] := by kernel_rfl
theorem T.el56 : elT Try.prog 56 = none := by kernel_rfl
theorem T.sz57 : szT Try.prog 57 = some 1 := by kernel_rfl
theorem T.by57 : byT Try.prog 57 = some 8 := by kernel_rfl
theorem T.ag57 : aggT Try.prog 57 = some false := by kernel_rfl
theorem T.ze57 : zeroT Try.prog 57 = some [.nilF] := by kernel_rfl
theorem T.el57 : elT Try.prog 57 = none := by kernel_rfl
theorem T.sz58 : szT Try.prog 58 = some 1 := by kernel_rfl
theorem T.by58 : byT Try.prog 58 = some 8 := by kernel_rfl
theorem T.ag58 : aggT Try.prog 58 = some false := by kernel_rfl
theorem T.ze58 : zeroT Try.prog 58 = some [.nilF] := by kernel_rfl
theorem T.el58 : elT Try.prog 58 = none := by kernel_rfl
theorem T.sz59 : szT Try.prog 59 = some 1 := by kernel_rfl
theorem T.by59 : byT Try.prog 59 = some 8 := by kernel_rfl
theorem T.ag59 : aggT Try.prog 59 = some false := by kernel_rfl
theorem T.ze59 : zeroT Try.prog 59 = some [.nilF] := by kernel_rfl
theorem T.el59 : elT Try.prog 59 = none := by kernel_rfl
theorem T.sz60 : szT Try.prog 60 = some 1 := by kernel_rfl
theorem T.by60 : byT Try.prog 60 = some 8 := by kernel_rfl
theorem T.ag60 : aggT Try.prog 60 = some false := by kernel_rfl
theorem T.ze60 : zeroT Try.prog 60 = some [.nilF] := by kernel_rfl
theorem T.el60 : elT Try.prog 60 = none := by kernel_rfl
theorem T.sz61 : szT Try.prog 61 = some 1 := by kernel_rfl
theorem T.by61 : byT Try.prog 61 = some 8 := by kernel_rfl
theorem T.ag61 : aggT Try.prog 61 = some false := by kernel_rfl
theorem T.ze61 : zeroT Try.prog 61 = some [.nilF] := by kernel_rfl
theorem T.el61 : elT Try.prog 61 = none := by kernel_rfl
theorem T.sz62 : szT Try.prog 62 = some 2 := by kernel_rfl
theorem T.by62 : byT Try.prog 62 = some 16 := by kernel_rfl
theorem T.ag62 : aggT Try.prog 62 = some true := by kernel_rfl
theorem T.ze62 : zeroT Try.prog 62 = some [(.int .i64 0), (.int .i64 0)] := by kernel_rfl
theorem T.el62 : elT Try.prog 62 = none := by kernel_rfl
theorem T.fl62_0 : fldT Try.prog 62 0 = some (0, 3) := by kernel_rfl
theorem T.fl62_1 : fldT Try.prog 62 1 = some (1, 3) := by kernel_rfl
theorem T.pl62 : plT Try.prog 62 = some (some [(0, 1), (1, 1)]) := by kernel_rfl
theorem T.fi62 : flatI Try.prog 62 = true := by kernel_rfl
theorem T.fn62 : flatN Try.prog 62 = 2 := by kernel_rfl
theorem T.sz63 : szT Try.prog 63 = some 2 := by kernel_rfl
theorem T.by63 : byT Try.prog 63 = some 16 := by kernel_rfl
theorem T.ag63 : aggT Try.prog 63 = some true := by kernel_rfl
theorem T.ze63 : zeroT Try.prog 63 = some [(.int .i64 0), (.int .i64 0)] := by kernel_rfl
theorem T.el63 : elT Try.prog 63 = none := by kernel_rfl
theorem T.fl63_0 : fldT Try.prog 63 0 = some (0, 3) := by kernel_rfl
theorem T.fl63_1 : fldT Try.prog 63 1 = some (1, 3) := by kernel_rfl
theorem T.pl63 : plT Try.prog 63 = some (some [(0, 1), (1, 1)]) := by kernel_rfl
theorem T.fi63 : flatI Try.prog 63 = true := by kernel_rfl
theorem T.fn63 : flatN Try.prog 63 = 2 := by kernel_rfl
theorem T.sz65 : szT Try.prog 65 = some 1 := by kernel_rfl
theorem T.by65 : byT Try.prog 65 = some 8 := by kernel_rfl
theorem T.ag65 : aggT Try.prog 65 = some false := by kernel_rfl
theorem T.ze65 : zeroT Try.prog 65 = some [.nilF] := by kernel_rfl
theorem T.el65 : elT Try.prog 65 = none := by kernel_rfl
theorem T.sz66 : szT Try.prog 66 = some 1 := by kernel_rfl
theorem T.by66 : byT Try.prog 66 = some 8 := by kernel_rfl
theorem T.ag66 : aggT Try.prog 66 = some false := by kernel_rfl
theorem T.ze66 : zeroT Try.prog 66 = some [.nilF] := by kernel_rfl
theorem T.el66 : elT Try.prog 66 = none := by kernel_rfl
theorem T.sz67 : szT Try.prog 67 = some 1 := by kernel_rfl
theorem T.by67 : byT Try.prog 67 = some 8 := by kernel_rfl
theorem T.ag67 : aggT Try.prog 67 = some false := by kernel_rfl
theorem T.ze67 : zeroT Try.prog 67 = some [.nilF] := by kernel_rfl
theorem T.el67 : elT Try.prog 67 = none := by kernel_rfl
theorem T.sz68 : szT Try.prog 68 = some 1 := by kernel_rfl
theorem T.by68 : byT Try.prog 68 = some 8 := by kernel_rfl
theorem T.ag68 : aggT Try.prog 68 = some false := by kernel_rfl
theorem T.ze68 : zeroT Try.prog 68 = some [.nilF] := by kernel_rfl
theorem T.el68 : elT Try.prog 68 = none := by kernel_rfl
theorem T.sz70 : szT Try.prog 70 = some 1 := by kernel_rfl
theorem T.by70 : byT Try.prog 70 = some 8 := by kernel_rfl
theorem T.ag70 : aggT Try.prog 70 = some false := by kernel_rfl
theorem T.ze70 : zeroT Try.prog 70 = some [.nilF] := by kernel_rfl
theorem T.el70 : elT Try.prog 70 = none := by kernel_rfl
theorem T.sz71 : szT Try.prog 71 = some 1 := by kernel_rfl
theorem T.by71 : byT Try.prog 71 = some 8 := by kernel_rfl
theorem T.ag71 : aggT Try.prog 71 = some false := by kernel_rfl
theorem T.ze71 : zeroT Try.prog 71 = some [.nilF] := by kernel_rfl
theorem T.el71 : elT Try.prog 71 = none := by kernel_rfl
theorem T.sz72 : szT Try.prog 72 = some 1 := by kernel_rfl
theorem T.by72 : byT Try.prog 72 = some 8 := by kernel_rfl
theorem T.ag72 : aggT Try.prog 72 = some false := by kernel_rfl
theorem T.ze72 : zeroT Try.prog 72 = some [.nilF] := by kernel_rfl
theorem T.el72 : elT Try.prog 72 = none := by kernel_rfl
theorem T.sz73 : szT Try.prog 73 = some 1 := by kernel_rfl
theorem T.by73 : byT Try.prog 73 = some 8 := by kernel_rfl
theorem T.ag73 : aggT Try.prog 73 = some false := by kernel_rfl
theorem T.ze73 : zeroT Try.prog 73 = some [.nilF] := by kernel_rfl
theorem T.el73 : elT Try.prog 73 = none := by kernel_rfl
theorem T.sz75 : szT Try.prog 75 = some 1 := by kernel_rfl
theorem T.by75 : byT Try.prog 75 = some 8 := by kernel_rfl
theorem T.ag75 : aggT Try.prog 75 = some false := by kernel_rfl
theorem T.ze75 : zeroT Try.prog 75 = some [.nilF] := by kernel_rfl
theorem T.el75 : elT Try.prog 75 = none := by kernel_rfl
theorem T.sz76 : szT Try.prog 76 = some 1 := by kernel_rfl
theorem T.by76 : byT Try.prog 76 = some 8 := by kernel_rfl
theorem T.ag76 : aggT Try.prog 76 = some false := by kernel_rfl
theorem T.ze76 : zeroT Try.prog 76 = some [.nilP] := by kernel_rfl
theorem T.el76 : elT Try.prog 76 = none := by kernel_rfl
theorem T.sz78 : szT Try.prog 78 = some 1 := by kernel_rfl
theorem T.by78 : byT Try.prog 78 = some 8 := by kernel_rfl
theorem T.ag78 : aggT Try.prog 78 = some false := by kernel_rfl
theorem T.ze78 : zeroT Try.prog 78 = some [.nilF] := by kernel_rfl
theorem T.el78 : elT Try.prog 78 = none := by kernel_rfl
theorem T.sz79 : szT Try.prog 79 = some 1 := by kernel_rfl
theorem T.by79 : byT Try.prog 79 = some 8 := by kernel_rfl
theorem T.ag79 : aggT Try.prog 79 = some false := by kernel_rfl
theorem T.ze79 : zeroT Try.prog 79 = some [.nilF] := by kernel_rfl
theorem T.el79 : elT Try.prog 79 = none := by kernel_rfl
theorem T.sz80 : szT Try.prog 80 = some 1 := by kernel_rfl
theorem T.by80 : byT Try.prog 80 = some 24 := by kernel_rfl
theorem T.ag80 : aggT Try.prog 80 = some false := by kernel_rfl
theorem T.ze80 : zeroT Try.prog 80 = some [.nilS] := by kernel_rfl
theorem T.el80 : elT Try.prog 80 = some (82, 5) := by kernel_rfl
theorem T.sz81 : szT Try.prog 81 = some 5 := by kernel_rfl
theorem T.by81 : byT Try.prog 81 = some 40 := by kernel_rfl
theorem T.ag81 : aggT Try.prog 81 = some true := by kernel_rfl
theorem T.ze81 : zeroT Try.prog 81 = some [(.int .i64 0), (.int .i64 0), (.int .i64 0), (.int .i64 0), (.int .i64 0)] := by kernel_rfl
theorem T.el81 : elT Try.prog 81 = none := by kernel_rfl
theorem T.ar81 : arT Try.prog 81 = some (5, 3, 1) := by kernel_rfl
theorem T.pl81 : plT Try.prog 81 = some none := by kernel_rfl
theorem T.sz82 : szT Try.prog 82 = some 5 := by kernel_rfl
theorem T.by82 : byT Try.prog 82 = some 40 := by kernel_rfl
theorem T.ag82 : aggT Try.prog 82 = some true := by kernel_rfl
theorem T.ze82 : zeroT Try.prog 82 = some [(.int .i64 0), (.int .i64 0), (.int .i64 0), (.int .i64 0), (.int .i64 0)] := by kernel_rfl
theorem T.el82 : elT Try.prog 82 = none := by kernel_rfl
theorem T.ar82 : arT Try.prog 82 = some (5, 3, 1) := by kernel_rfl
theorem T.pl82 : plT Try.prog 82 = some none := by kernel_rfl
theorem T.sz83 : szT Try.prog 83 = some 10 := by kernel_rfl
theorem T.by83 : byT Try.prog 83 = some 144 := by kernel_rfl
theorem T.ag83 : aggT Try.prog 83 = some true := by kernel_rfl
theorem T.ze83 : zeroT Try.prog 83 = some [.nilS, .nilS, .nilS, (.int .i64 0), .nilS, (.int .i64 0), (.int .i64 0), (.int .i64 0), (.int .i64 0), (.int .i64 0)] := by kernel_rfl
theorem T.el83 : elT Try.prog 83 = none := by kernel_rfl
theorem T.fl83_0 : fldT Try.prog 83 0 = some (0, 26) := by kernel_rfl
theorem T.fl83_1 : fldT Try.prog 83 1 = some (4, 80) := by kernel_rfl
theorem T.fl83_2 : fldT Try.prog 83 2 = some (5, 82) := by kernel_rfl
theorem T.pl83 : plT Try.prog 83 = some (some [(0, 4), (4, 1), (5, 5)]) := by kernel_rfl
theorem T.sz84 : szT Try.prog 84 = some 10 := by kernel_rfl
theorem T.by84 : byT Try.prog 84 = some 144 := by kernel_rfl
theorem T.ag84 : aggT Try.prog 84 = some true := by kernel_rfl
theorem T.ze84 : zeroT Try.prog 84 = some [.nilS, .nilS, .nilS, (.int .i64 0), .nilS, (.int .i64 0), (.int .i64 0), (.int .i64 0), (.int .i64 0), (.int .i64 0)] := by kernel_rfl
theorem T.el84 : elT Try.prog 84 = none := by kernel_rfl
theorem T.fl84_0 : fldT Try.prog 84 0 = some (0, 26) := by kernel_rfl
theorem T.fl84_1 : fldT Try.prog 84 1 = some (4, 80) := by kernel_rfl
theorem T.fl84_2 : fldT Try.prog 84 2 = some (5, 82) := by kernel_rfl
theorem T.pl84 : plT Try.prog 84 = some (some [(0, 4), (4, 1), (5, 5)]) := by kernel_rfl
theorem T.sz85 : szT Try.prog 85 = some 1 := by kernel_rfl
theorem T.by85 : byT Try.prog 85 = some 8 := by kernel_rfl
theorem T.ag85 : aggT Try.prog 85 = some false := by kernel_rfl
theorem T.ze85 : zeroT Try.prog 85 = some [.nilF] := by kernel_rfl
theorem T.el85 : elT Try.prog 85 = none := by kernel_rfl
theorem T.sz86 : szT Try.prog 86 = some 1 := by kernel_rfl
theorem T.by86 : byT Try.prog 86 = some 8 := by kernel_rfl
theorem T.ag86 : aggT Try.prog 86 = some false := by kernel_rfl
theorem T.ze86 : zeroT Try.prog 86 = some [.nilF] := by kernel_rfl
theorem T.el86 : elT Try.prog 86 = none := by kernel_rfl
theorem T.sz87 : szT Try.prog 87 = some 1 := by kernel_rfl
theorem T.by87 : byT Try.prog 87 = some 8 := by kernel_rfl
theorem T.ag87 : aggT Try.prog 87 = some false := by kernel_rfl
theorem T.ze87 : zeroT Try.prog 87 = some [.nilF] := by kernel_rfl
theorem T.el87 : elT Try.prog 87 = none := by kernel_rfl
theorem T.sz88 : szT Try.prog 88 = some 1 := by kernel_rfl
theorem T.by88 : byT Try.prog 88 = some 8 := by kernel_rfl
theorem T.ag88 : aggT Try.prog 88 = some false := by kernel_rfl
theorem T.ze88 : zeroT Try.prog 88 = some [.nilF] := by kernel_rfl
theorem T.el88 : elT Try.prog 88 = none := by kernel_rfl
theorem T.sz89 : szT Try.prog 89 = some 1 := by kernel_rfl
theorem T.by89 : byT Try.prog 89 = some 8 := by kernel_rfl
theorem T.ag89 : aggT Try.prog 89 = some false := by kernel_rfl
theorem T.ze89 : zeroT Try.prog 89 = some [.nilF] := by kernel_rfl
theorem T.el89 : elT Try.prog 89 = none := by kernel_rfl
theorem T.sz90 : szT Try.prog 90 = some 1 := by kernel_rfl
theorem T.by90 : byT Try.prog 90 = some 8 := by kernel_rfl
theorem T.ag90 : aggT Try.prog 90 = some false := by kernel_rfl
theorem T.ze90 : zeroT Try.prog 90 = some [.nilF] := by kernel_rfl
theorem T.el90 : elT Try.prog 90 = none := by kernel_rfl
theorem T.sz91 : szT Try.prog 91 = some 1 := by kernel_rfl
theorem T.by91 : byT Try.prog 91 = some 8 := by kernel_rfl
theorem T.ag91 : aggT Try.prog 91 = some false := by kernel_rfl
theorem T.ze91 : zeroT Try.prog 91 = some [.nilF] := by kernel_rfl
theorem T.el91 : elT Try.prog 91 = none := by kernel_rfl
theorem T.sz92 : szT Try.prog 92 = some 1 := by kernel_rfl
theorem T.by92 : byT Try.prog 92 = some 8 := by kernel_rfl
theorem T.ag92 : aggT Try.prog 92 = some false := by kernel_rfl
theorem T.ze92 : zeroT Try.prog 92 = some [.nilF] := by kernel_rfl
theorem T.el92 : elT Try.prog 92 = none := by kernel_rfl
theorem T.sz93 : szT Try.prog 93 = some 1 := by kernel_rfl
theorem T.by93 : byT Try.prog 93 = some 8 := by kernel_rfl
theorem T.ag93 : aggT Try.prog 93 = some false := by kernel_rfl
theorem T.ze93 : zeroT Try.prog 93 = some [.nilF] := by kernel_rfl
theorem T.el93 : elT Try.prog 93 = none := by kernel_rfl
theorem T.sz94 : szT Try.prog 94 = some 1 := by kernel_rfl
theorem T.by94 : byT Try.prog 94 = some 8 := by kernel_rfl
theorem T.ag94 : aggT Try.prog 94 = some false := by kernel_rfl
theorem T.ze94 : zeroT Try.prog 94 = some [.nilF] := by kernel_rfl
theorem T.el94 : elT Try.prog 94 = none := by kernel_rfl
theorem T.sz95 : szT Try.prog 95 = some 1 := by kernel_rfl
theorem T.by95 : byT Try.prog 95 = some 8 := by kernel_rfl
theorem T.ag95 : aggT Try.prog 95 = some false := by kernel_rfl
theorem T.ze95 : zeroT Try.prog 95 = some [.nilF] := by kernel_rfl
theorem T.el95 : elT Try.prog 95 = none := by kernel_rfl
theorem T.sz96 : szT Try.prog 96 = some 1 := by kernel_rfl
theorem T.by96 : byT Try.prog 96 = some 8 := by kernel_rfl
theorem T.ag96 : aggT Try.prog 96 = some false := by kernel_rfl
theorem T.ze96 : zeroT Try.prog 96 = some [.nilF] := by kernel_rfl
theorem T.el96 : elT Try.prog 96 = none := by kernel_rfl
theorem T.sz97 : szT Try.prog 97 = some 1 := by kernel_rfl
theorem T.by97 : byT Try.prog 97 = some 8 := by kernel_rfl
theorem T.ag97 : aggT Try.prog 97 = some false := by kernel_rfl
theorem T.ze97 : zeroT Try.prog 97 = some [.nilF] := by kernel_rfl
theorem T.el97 : elT Try.prog 97 = none := by kernel_rfl
theorem T.sz98 : szT Try.prog 98 = some 1 := by kernel_rfl
theorem T.by98 : byT Try.prog 98 = some 8 := by kernel_rfl
theorem T.ag98 : aggT Try.prog 98 = some false := by kernel_rfl
theorem T.ze98 : zeroT Try.prog 98 = some [.nilF] := by kernel_rfl
theorem T.el98 : elT Try.prog 98 = none := by kernel_rfl
theorem T.sz99 : szT Try.prog 99 = some 1 := by kernel_rfl
theorem T.by99 : byT Try.prog 99 = some 8 := by kernel_rfl
theorem T.ag99 : aggT Try.prog 99 = some false := by kernel_rfl
theorem T.ze99 : zeroT Try.prog 99 = some [.nilF] := by kernel_rfl
theorem T.el99 : elT Try.prog 99 = none := by kernel_rfl
theorem T.sz100 : szT Try.prog 100 = some 1 := by kernel_rfl
theorem T.by100 : byT Try.prog 100 = some 8 := by kernel_rfl
theorem T.ag100 : aggT Try.prog 100 = some false := by kernel_rfl
theorem T.ze100 : zeroT Try.prog 100 = some [.nilF] := by kernel_rfl
theorem T.el100 : elT Try.prog 100 = none := by kernel_rfl
theorem T.sz101 : szT Try.prog 101 = some 1 := by kernel_rfl
theorem T.by101 : byT Try.prog 101 = some 8 := by kernel_rfl
theorem T.ag101 : aggT Try.prog 101 = some false := by kernel_rfl
theorem T.ze101 : zeroT Try.prog 101 = some [.nilF] := by kernel_rfl
theorem T.el101 : elT Try.prog 101 = none := by kernel_rfl
theorem T.sz102 : szT Try.prog 102 = some 1 := by kernel_rfl
theorem T.by102 : byT Try.prog 102 = some 8 := by kernel_rfl
theorem T.ag102 : aggT Try.prog 102 = some false := by kernel_rfl
theorem T.ze102 : zeroT Try.prog 102 = some [.nilF] := by kernel_rfl
theorem T.el102 : elT Try.prog 102 = none := by kernel_rfl
theorem T.sz103 : szT Try.prog 103 = some 1 := by kernel_rfl
theorem T.by103 : byT Try.prog 103 = some 8 := by kernel_rfl
theorem T.ag103 : aggT Try.prog 103 = some false := by kernel_rfl
theorem T.ze103 : zeroT Try.prog 103 = some [.nilF] := by kernel_rfl
theorem T.el103 : elT Try.prog 103 = none := by kernel_rfl
theorem T.sz104 : szT Try.prog 104 = some 1 := by kernel_rfl
theorem T.by104 : byT Try.prog 104 = some 8 := by kernel_rfl
theorem T.ag104 : aggT Try.prog 104 = some false := by kernel_rfl
theorem T.ze104 : zeroT Try.prog 104 = some [.nilF] := by kernel_rfl
theorem T.el104 : elT Try.prog 104 = none := by kernel_rfl
theorem T.sz105 : szT Try.prog 105 = some 1 := by kernel_rfl
theorem T.by105 : byT Try.prog 105 = some 8 := by kernel_rfl
theorem T.ag105 : aggT Try.prog 105 = some false := by kernel_rfl
theorem T.ze105 : zeroT Try.prog 105 = some [.nilF] := by kernel_rfl
theorem T.el105 : elT Try.prog 105 = none := by kernel_rfl
theorem T.sz106 : szT Try.prog 106 = some 1 := by kernel_rfl
theorem T.by106 : byT Try.prog 106 = some 8 := by kernel_rfl
theorem T.ag106 : aggT Try.prog 106 = some false := by kernel_rfl
theorem T.ze106 : zeroT Try.prog 106 = some [.nilF] := by kernel_rfl
theorem T.el106 : elT Try.prog 106 = none := by kernel_rfl
theorem T.sz107 : szT Try.prog 107 = some 1 := by kernel_rfl
theorem T.by107 : byT Try.prog 107 = some 8 := by kernel_rfl
theorem T.ag107 : aggT Try.prog 107 = some false := by kernel_rfl
theorem T.ze107 : zeroT Try.prog 107 = some [.nilF] := by kernel_rfl
theorem T.el107 : elT Try.prog 107 = none := by kernel_rfl
theorem T.sz108 : szT Try.prog 108 = some 1 := by kernel_rfl
theorem T.by108 : byT Try.prog 108 = some 8 := by kernel_rfl
theorem T.ag108 : aggT Try.prog 108 = some false := by kernel_rfl
theorem T.ze108 : zeroT Try.prog 108 = some [.nilF] := by kernel_rfl
theorem T.el108 : elT Try.prog 108 = none := by kernel_rfl
theorem T.sz109 : szT Try.prog 109 = some 1 := by kernel_rfl
theorem T.by109 : byT Try.prog 109 = some 8 := by kernel_rfl
theorem T.ag109 : aggT Try.prog 109 = some false := by kernel_rfl
theorem T.ze109 : zeroT Try.prog 109 = some [.nilF] := by kernel_rfl
theorem T.el109 : elT Try.prog 109 = none := by kernel_rfl
theorem T.sz110 : szT Try.prog 110 = some 1 := by kernel_rfl
theorem T.by110 : byT Try.prog 110 = some 8 := by kernel_rfl
theorem T.ag110 : aggT Try.prog 110 = some false := by kernel_rfl
theorem T.ze110 : zeroT Try.prog 110 = some [.nilF] := by kernel_rfl
theorem T.el110 : elT Try.prog 110 = none := by kernel_rfl
theorem T.sz111 : szT Try.prog 111 = some 1 := by kernel_rfl
theorem T.by111 : byT Try.prog 111 = some 8 := by kernel_rfl
theorem T.ag111 : aggT Try.prog 111 = some false := by kernel_rfl
theorem T.ze111 : zeroT Try.prog 111 = some [.nilF] := by kernel_rfl
theorem T.el111 : elT Try.prog 111 = none := by kernel_rfl
theorem T.sz112 : szT Try.prog 112 = some 1 := by kernel_rfl
theorem T.by112 : byT Try.prog 112 = some 8 := by kernel_rfl
theorem T.ag112 : aggT Try.prog 112 = some false := by kernel_rfl
theorem T.ze112 : zeroT Try.prog 112 = some [.nilF] := by kernel_rfl
theorem T.el112 : elT Try.prog 112 = none := by kernel_rfl
theorem T.sz113 : szT Try.prog 113 = some 4 := by kernel_rfl
theorem T.by113 : byT Try.prog 113 = some 40 := by kernel_rfl
theorem T.ag113 : aggT Try.prog 113 = some true := by kernel_rfl
theorem T.ze113 : zeroT Try.prog 113 = some [.nilP, .nilP, .nilP, .any] := by kernel_rfl
theorem T.el113 : elT Try.prog 113 = none := by kernel_rfl
theorem T.fl113_0 : fldT Try.prog 113 0 = some (0, 17) := by kernel_rfl
theorem T.fl113_1 : fldT Try.prog 113 1 = some (1, 17) := by kernel_rfl
theorem T.fl113_2 : fldT Try.prog 113 2 = some (2, 17) := by kernel_rfl
theorem T.fl113_3 : fldT Try.prog 113 3 = some (3, 9) := by kernel_rfl
theorem T.pl113 : plT Try.prog 113 = some (some [(0, 1), (1, 1), (2, 1), (3, 1)]) := by kernel_rfl
theorem T.sz114 : szT Try.prog 114 = some 4 := by kernel_rfl
theorem T.by114 : byT Try.prog 114 = some 40 := by kernel_rfl
theorem T.ag114 : aggT Try.prog 114 = some true := by kernel_rfl
theorem T.ze114 : zeroT Try.prog 114 = some [.nilP, .nilP, .nilP, .any] := by kernel_rfl
theorem T.el114 : elT Try.prog 114 = none := by kernel_rfl
theorem T.fl114_0 : fldT Try.prog 114 0 = some (0, 17) := by kernel_rfl
theorem T.fl114_1 : fldT Try.prog 114 1 = some (1, 17) := by kernel_rfl
theorem T.fl114_2 : fldT Try.prog 114 2 = some (2, 17) := by kernel_rfl
theorem T.fl114_3 : fldT Try.prog 114 3 = some (3, 9) := by kernel_rfl
theorem T.pl114 : plT Try.prog 114 = some (some [(0, 1), (1, 1), (2, 1), (3, 1)]) := by kernel_rfl
theorem T.sz115 : szT Try.prog 115 = some 0 := by kernel_rfl
theorem T.by115 : byT Try.prog 115 = some 0 := by kernel_rfl
theorem T.ag115 : aggT Try.prog 115 = some true := by kernel_rfl
theorem T.ze115 : zeroT Try.prog 115 = some [] := by kernel_rfl
theorem T.el115 : elT Try.prog 115 = none := by kernel_rfl
theorem T.ar115 : arT Try.prog 115 = some (0, 16, 1) := by kernel_rfl
theorem T.pl115 : plT Try.prog 115 = some none := by kernel_rfl
theorem T.sz116 : szT Try.prog 116 = some 0 := by kernel_rfl
theorem T.by116 : byT Try.prog 116 = some 0 := by kernel_rfl
theorem T.ag116 : aggT Try.prog 116 = some true := by kernel_rfl
theorem T.ze116 : zeroT Try.prog 116 = some [] := by kernel_rfl
theorem T.el116 : elT Try.prog 116 = none := by kernel_rfl
theorem T.pl116 : plT Try.prog 116 = some (some [(0, 0)]) := by kernel_rfl
theorem T.sz117 : szT Try.prog 117 = some 0 := by kernel_rfl
theorem T.by117 : byT Try.prog 117 = some 0 := by kernel_rfl
theorem T.ag117 : aggT Try.prog 117 = some true := by kernel_rfl
theorem T.ze117 : zeroT Try.prog 117 = some [] := by kernel_rfl
theorem T.el117 : elT Try.prog 117 = none := by kernel_rfl
theorem T.pl117 : plT Try.prog 117 = some (some [(0, 0)]) := by kernel_rfl
theorem T.sz118 : szT Try.prog 118 = some 1 := by kernel_rfl
theorem T.by118 : byT Try.prog 118 = some 8 := by kernel_rfl
theorem T.ag118 : aggT Try.prog 118 = some false := by kernel_rfl
theorem T.ze118 : zeroT Try.prog 118 = some [.nilF] := by kernel_rfl
theorem T.el118 : elT Try.prog 118 = none := by kernel_rfl
theorem T.sz122 : szT Try.prog 122 = some 1 := by kernel_rfl
theorem T.by122 : byT Try.prog 122 = some 8 := by kernel_rfl
theorem T.ag122 : aggT Try.prog 122 = some false := by kernel_rfl
theorem T.ze122 : zeroT Try.prog 122 = some [.nilF] := by kernel_rfl
theorem T.el122 : elT Try.prog 122 = none := by kernel_rfl
theorem T.sz123 : szT Try.prog 123 = some 1 := by kernel_rfl
theorem T.by123 : byT Try.prog 123 = some 8 := by kernel_rfl
theorem T.ag123 : aggT Try.prog 123 = some false := by kernel_rfl
theorem T.ze123 : zeroT Try.prog 123 = some [.nilP] := by kernel_rfl
theorem T.el123 : elT Try.prog 123 = none := by kernel_rfl
theorem T.sz126 : szT Try.prog 126 = some 11 := by kernel_rfl
theorem T.by126 : byT Try.prog 126 = some 48 := by kernel_rfl
theorem T.ag126 : aggT Try.prog 126 = some true := by kernel_rfl
theorem T.ze126 : zeroT Try.prog 126 = some [(.int .u64 0), (.int .u64 0), (.int .u32 0), (.int .u8 0), (.int .u8 0), (.int .u8 0), (.int .u8 0), .nilF, .nilP, (.int .i32 0), (.int .i32 0)] := by kernel_rfl
theorem T.el126 : elT Try.prog 126 = none := by kernel_rfl
theorem T.fl126_0 : fldT Try.prog 126 0 = some (0, 12) := by kernel_rfl
theorem T.fl126_1 : fldT Try.prog 126 1 = some (1, 12) := by kernel_rfl
theorem T.fl126_2 : fldT Try.prog 126 2 = some (2, 119) := by kernel_rfl
theorem T.fl126_3 : fldT Try.prog 126 3 = some (3, 120) := by kernel_rfl
theorem T.fl126_4 : fldT Try.prog 126 4 = some (4, 5) := by kernel_rfl
theorem T.fl126_5 : fldT Try.prog 126 5 = some (5, 5) := by kernel_rfl
theorem T.fl126_6 : fldT Try.prog 126 6 = some (6, 121) := by kernel_rfl
theorem T.fl126_7 : fldT Try.prog 126 7 = some (7, 122) := by kernel_rfl
theorem T.fl126_8 : fldT Try.prog 126 8 = some (8, 123) := by kernel_rfl
theorem T.fl126_9 : fldT Try.prog 126 9 = some (9, 124) := by kernel_rfl
theorem T.fl126_10 : fldT Try.prog 126 10 = some (10, 125) := by kernel_rfl
theorem T.pl126 : plT Try.prog 126 = some (some [(0, 1), (1, 1), (2, 1), (3, 1), (4, 1), (5, 1), (6, 1), (7, 1), (8, 1), (9, 1), (10, 1)]) := by kernel_rfl
theorem T.sz127 : szT Try.prog 127 = some 11 := by kernel_rfl
theorem T.by127 : byT Try.prog 127 = some 48 := by kernel_rfl
theorem T.ag127 : aggT Try.prog 127 = some true := by kernel_rfl
theorem T.ze127 : zeroT Try.prog 127 = some [(.int .u64 0), (.int .u64 0), (.int .u32 0), (.int .u8 0), (.int .u8 0), (.int .u8 0), (.int .u8 0), .nilF, .nilP, (.int .i32 0), (.int .i32 0)] := by kernel_rfl
theorem T.el127 : elT Try.prog 127 = none := by kernel_rfl
theorem T.fl127_0 : fldT Try.prog 127 0 = some (0, 12) := by kernel_rfl
theorem T.fl127_1 : fldT Try.prog 127 1 = some (1, 12) := by kernel_rfl
theorem T.fl127_2 : fldT Try.prog 127 2 = some (2, 119) := by kernel_rfl
theorem T.fl127_3 : fldT Try.prog 127 3 = some (3, 120) := by kernel_rfl
theorem T.fl127_4 : fldT Try.prog 127 4 = some (4, 5) := by kernel_rfl
theorem T.fl127_5 : fldT Try.prog 127 5 = some (5, 5) := by kernel_rfl
theorem T.fl127_6 : fldT Try.prog 127 6 = some (6, 121) := by kernel_rfl
theorem T.fl127_7 : fldT Try.prog 127 7 = some (7, 122) := by kernel_rfl
theorem T.fl127_8 : fldT Try.prog 127 8 = some (8, 123) := by kernel_rfl
theorem T.fl127_9 : fldT Try.prog 127 9 = some (9, 124) := by kernel_rfl
theorem T.fl127_10 : fldT Try.prog 127 10 = some (10, 125) := by kernel_rfl
theorem T.pl127 : plT Try.prog 127 = some (some [(0, 1), (1, 1), (2, 1), (3, 1), (4, 1), (5, 1), (6, 1), (7, 1), (8, 1), (9, 1), (10, 1)]) := by kernel_rfl
attribute [go_sem] T.sz1 T.by1 T.ag1 T.ze1 T.el1 T.sz2 T.by2 T.ag2 T.ze2 T.el2 T.bo2 T.sz3 T.by3 T.ag3 T.ze3 T.el3 T.bo3 T.sz4 T.by4 T.ag4 T.ze4 T.el4 T.bo4 T.sz12 T.by12 T.ag12 T.ze12 T.el12 T.bo12 T.sz15 T.by15 T.ag15 T.ze15 T.el15 T.sz16 T.by16 T.ag16 T.ze16 T.el16 T.sz17
attribute [go_sem] T.by17 T.ag17 T.ze17 T.el17 T.sz18 T.by18 T.ag18 T.ze18 T.el18 T.fl18_0 T.pl18 T.sz19 T.by19 T.ag19 T.ze19 T.el19 T.fl19_0 T.pl19 T.sz22 T.by22 T.ag22 T.ze22 T.el22 T.sz23 T.by23 T.ag23 T.ze23 T.el23 T.sz24 T.by24 T.ag24 T.ze24 T.el24 T.sz25 T.by25 T.ag25 T.ze25 T.el25 T.fl25_0 T.fl25_1
attribute [go_sem] T.fl25_2 T.fl25_3 T.pl25 T.sz26 T.by26 T.ag26 T.ze26 T.el26 T.fl26_0 T.fl26_1 T.fl26_2 T.fl26_3 T.pl26 T.sz27 T.by27 T.ag27 T.ze27 T.el27 T.sz28 T.by28 T.ag28 T.ze28 T.el28 T.sz29 T.by29 T.ag29 T.ze29 T.el29 T.sz30 T.by30 T.ag30 T.ze30 T.el30 T.sz31 T.by31 T.ag31 T.ze31 T.el31 T.sz33 T.by33
attribute [go_sem] T.ag33 T.ze33 T.el33 T.sz34 T.by34 T.ag34 T.ze34 T.el34 T.sz35 T.by35 T.ag35 T.ze35 T.el35 T.sz36 T.by36 T.ag36 T.ze36 T.el36 T.fl36_0 T.fl36_1 T.pl36 T.fi36 T.fn36 T.sz37 T.by37 T.ag37 T.ze37 T.el37 T.fl37_0 T.fl37_1 T.pl37 T.fi37 T.fn37 T.sz38 T.by38 T.ag38 T.ze38 T.el38 T.sz39 T.by39
attribute [go_sem] T.ag39 T.ze39 T.el39 T.sz40 T.by40 T.ag40 T.ze40 T.el40 T.bo40 T.sz42 T.by42 T.ag42 T.ze42 T.el42 T.sz43 T.by43 T.ag43 T.ze43 T.el43 T.sz44 T.by44 T.ag44 T.ze44 T.el44 T.sz45 T.by45 T.ag45 T.ze45 T.el45 T.sz46 T.by46 T.ag46 T.ze46 T.el46 T.sz47 T.by47 T.ag47 T.ze47 T.el47 T.sz48
attribute [go_sem] T.by48 T.ag48 T.ze48 T.el48 T.sz49 T.by49 T.ag49 T.ze49 T.el49 T.sz50 T.by50 T.ag50 T.ze50 T.el50 T.fl50_0 T.fl50_1 T.fl50_2 T.pl50 T.fi50 T.fn50 T.sz51 T.by51 T.ag51 T.ze51 T.el51 T.fl51_0 T.fl51_1 T.fl51_2 T.pl51 T.fi51 T.fn51 T.sz53 T.by53 T.ag53 T.ze53 T.el53 T.sz54 T.by54 T.ag54 T.ze54
attribute [go_sem] T.el54 T.sz56 T.by56 T.ag56 T.ze56 T.el56 T.sz57 T.by57 T.ag57 T.ze57 T.el57 T.sz58 T.by58 T.ag58 T.ze58 T.el58 T.sz59 T.by59 T.ag59 T.ze59 T.el59 T.sz60 T.by60 T.ag60 T.ze60 T.el60 T.sz61 T.by61 T.ag61 T.ze61 T.el61 T.sz62 T.by62 T.ag62 T.ze62 T.el62 T.fl62_0 T.fl62_1 T.pl62 T.fi62
attribute [go_sem] T.fn62 T.sz63 T.by63 T.ag63 T.ze63 T.el63 T.fl63_0 T.fl63_1 T.pl63 T.fi63 T.fn63 T.sz65 T.by65 T.ag65 T.ze65 T.el65 T.sz66 T.by66 T.ag66 T.ze66 T.el66 T.sz67 T.by67 T.ag67 T.ze67 T.el67 T.sz68 T.by68 T.ag68 T.ze68 T.el68 T.sz70 T.by70 T.ag70 T.ze70 T.el70 T.sz71 T.by71 T.ag71 T.ze71
attribute [go_sem] T.el71 T.sz72 T.by72 T.ag72 T.ze72 T.el72 T.sz73 T.by73 T.ag73 T.ze73 T.el73 T.sz75 T.by75 T.ag75 T.ze75 T.el75 T.sz76 T.by76 T.ag76 T.ze76 T.el76 T.sz78 T.by78 T.ag78 T.ze78 T.el78 T.sz79 T.by79 T.ag79 T.ze79 T.el79 T.sz80 T.by80 T.ag80 T.ze80 T.el80 T.sz81 T.by81 T.ag81 T.ze81
attribute [go_sem] T.el81 T.ar81 T.pl81 T.sz82 T.by82 T.ag82 T.ze82 T.el82 T.ar82 T.pl82 T.sz83 T.by83 T.ag83 T.ze83 T.el83 T.fl83_0 T.fl83_1 T.fl83_2 T.pl83 T.sz84 T.by84 T.ag84 T.ze84 T.el84 T.fl84_0 T.fl84_1 T.fl84_2 T.pl84 T.sz85 T.by85 T.ag85 T.ze85 T.el85 T.sz86 T.by86 T.ag86 T.ze86 T.el86 T.sz87 T.by87
attribute [go_sem] T.ag87 T.ze87 T.el87 T.sz88 T.by88 T.ag88 T.ze88 T.el88 T.sz89 T.by89 T.ag89 T.ze89 T.el89 T.sz90 T.by90 T.ag90 T.ze90 T.el90 T.sz91 T.by91 T.ag91 T.ze91 T.el91 T.sz92 T.by92 T.ag92 T.ze92 T.el92 T.sz93 T.by93 T.ag93 T.ze93 T.el93 T.sz94 T.by94 T.ag94 T.ze94 T.el94 T.sz95 T.by95
attribute [go_sem] T.ag95 T.ze95 T.el95 T.sz96 T.by96 T.ag96 T.ze96 T.el96 T.sz97 T.by97 T.ag97 T.ze97 T.el97 T.sz98 T.by98 T.ag98 T.ze98 T.el98 T.sz99 T.by99 T.ag99 T.ze99 T.el99 T.sz100 T.by100 T.ag100 T.ze100 T.el100 T.sz101 T.by101 T.ag101 T.ze101 T.el101 T.sz102 T.by102 T.ag102 T.ze102 T.el102 T.sz103 T.by103
attribute [go_sem] T.ag103 T.ze103 T.el103 T.sz104 T.by104 T.ag104 T.ze104 T.el104 T.sz105 T.by105 T.ag105 T.ze105 T.el105 T.sz106 T.by106 T.ag106 T.ze106 T.el106 T.sz107 T.by107 T.ag107 T.ze107 T.el107 T.sz108 T.by108 T.ag108 T.ze108 T.el108 T.sz109 T.by109 T.ag109 T.ze109 T.el109 T.sz110 T.by110 T.ag110 T.ze110 T.el110 T.sz111 T.by111
attribute [go_sem] T.ag111 T.ze111 T.el111 T.sz112 T.by112 T.ag112 T.ze112 T.el112 T.sz113 T.by113 T.ag113 T.ze113 T.el113 T.fl113_0 T.fl113_1 T.fl113_2 T.fl113_3 T.pl113 T.sz114 T.by114 T.ag114 T.ze114 T.el114 T.fl114_0 T.fl114_1 T.fl114_2 T.fl114_3 T.pl114 T.sz115 T.by115 T.ag115 T.ze115 T.el115 T.ar115 T.pl115 T.sz116 T.by116 T.ag116 T.ze116 T.el116
attribute [go_sem] T.pl116 T.sz117 T.by117 T.ag117 T.ze117 T.el117 T.pl117 T.sz118 T.by118 T.ag118 T.ze118 T.el118 T.sz122 T.by122 T.ag122 T.ze122 T.el122 T.sz123 T.by123 T.ag123 T.ze123 T.el123 T.sz126 T.by126 T.ag126 T.ze126 T.el126 T.fl126_0 T.fl126_1 T.fl126_2 T.fl126_3 T.fl126_4 T.fl126_5 T.fl126_6 T.fl126_7 T.fl126_8 T.fl126_9 T.fl126_10 T.pl126 T.sz127
attribute [go_sem] T.by127 T.ag127 T.ze127 T.el127 T.fl127_0 T.fl127_1 T.fl127_2 T.fl127_3 T.fl127_4 T.fl127_5 T.fl127_6 T.fl127_7 T.fl127_8 T.fl127_9 T.fl127_10 T.pl127
end Go.Proofs.Ytekdocalipchpaa

