/- Contracts of functions of the given program, without a condition beyond those that each theorem states; they lead to the given statement. -/
import Derived.Test.YtjjlcjibhjmhmaaFlB
import Derived.Test.YtjjlcjibhjmhmaaProg
namespace Go.Proofs.Ytjjlcjibhjmhmaa
open Go Go.Fl
theorem T.sz1 : szT Try.prog 1 = some 1 := by kernel_rfl
theorem T.by1 : byT Try.prog 1 = some 8 := by kernel_rfl
theorem T.ag1 : aggT Try.prog 1 = some false := by kernel_rfl
theorem T.ze1 : zeroT Try.prog 1 = some [.nilF] := by kernel_rfl
theorem T.el1 : elT Try.prog 1 = none := by kernel_rfl
theorem T.fu1 : funcT Try.prog 1 = true := by kernel_rfl
theorem T.sz2 : szT Try.prog 2 = some 1 := by kernel_rfl
theorem T.by2 : byT Try.prog 2 = some 8 := by kernel_rfl
theorem T.ag2 : aggT Try.prog 2 = some false := by kernel_rfl
theorem T.ze2 : zeroT Try.prog 2 = some [(.int .i64 0)] := by kernel_rfl
theorem T.el2 : elT Try.prog 2 = none := by kernel_rfl
theorem T.bo2 : boolT Try.prog 2 = false := by kernel_rfl
theorem T.sz3 : szT Try.prog 3 = some 1 := by kernel_rfl
theorem T.by3 : byT Try.prog 3 = some 8 := by kernel_rfl
theorem T.ag3 : aggT Try.prog 3 = some false := by kernel_rfl
theorem T.ze3 : zeroT Try.prog 3 = some [(.int .i64 0)] := by kernel_rfl
theorem T.el3 : elT Try.prog 3 = none := by kernel_rfl
theorem T.bo3 : boolT Try.prog 3 = false := by kernel_rfl
theorem T.sz4 : szT Try.prog 4 = some 1 := by kernel_rfl
theorem T.by4 : byT Try.prog 4 = some 1 := by kernel_rfl
theorem T.ag4 : aggT Try.prog 4 = some false := by kernel_rfl
theorem T.ze4 : zeroT Try.prog 4 = some [.bool false] := by kernel_rfl
theorem T.el4 : elT Try.prog 4 = none := by kernel_rfl
theorem T.bo4 : boolT Try.prog 4 = true := by kernel_rfl
theorem T.sz12 : szT Try.prog 12 = some 1 := by kernel_rfl
theorem T.by12 : byT Try.prog 12 = some 8 := by kernel_rfl
theorem T.ag12 : aggT Try.prog 12 = some false := by kernel_rfl
theorem T.ze12 : zeroT Try.prog 12 = some [(.int .u64 0)] := by kernel_rfl
theorem T.el12 : elT Try.prog 12 = none := by kernel_rfl
theorem T.bo12 : boolT Try.prog 12 = false := by kernel_rfl
theorem T.sz15 : szT Try.prog 15 = some 1 := by kernel_rfl
theorem T.by15 : byT Try.prog 15 = some 8 := by kernel_rfl
theorem T.ag15 : aggT Try.prog 15 = some false := by kernel_rfl
theorem T.ze15 : zeroT Try.prog 15 = some [.nilP] := by kernel_rfl
theorem T.el15 : elT Try.prog 15 = none := by kernel_rfl
theorem T.sz16 : szT Try.prog 16 = some 1 := by kernel_rfl
theorem T.by16 : byT Try.prog 16 = some 8 := by kernel_rfl
theorem T.ag16 : aggT Try.prog 16 = some false := by kernel_rfl
theorem T.ze16 : zeroT Try.prog 16 = some [.nilP] := by kernel_rfl
theorem T.el16 : elT Try.prog 16 = none := by kernel_rfl
theorem T.sz17 : szT Try.prog 17 = some 1 := by kernel_rfl
theorem T.by17 : byT Try.prog 17 = some 8 := by kernel_rfl
theorem T.ag17 : aggT Try.prog 17 = some false := by kernel_rfl
theorem T.ze17 : zeroT Try.prog 17 = some [.nilP] := by kernel_rfl
theorem T.el17 : elT Try.prog 17 = none := by kernel_rfl
theorem T.sz18 : szT Try.prog 18 = some 1 := by kernel_rfl
theorem T.by18 : byT Try.prog 18 = some 8 := by kernel_rfl
theorem T.ag18 : aggT Try.prog 18 = some true := by kernel_rfl
theorem T.ze18 : zeroT Try.prog 18 = some [.nilP] := by kernel_rfl
theorem T.el18 : elT Try.prog 18 = none := by kernel_rfl
theorem T.fl18_0 : fldT Try.prog 18 0 = some (0, 17) := by kernel_rfl
theorem T.pl18 : plT Try.prog 18 = some (some [(0, 1)]) := by kernel_rfl
theorem T.sz19 : szT Try.prog 19 = some 1 := by kernel_rfl
theorem T.by19 : byT Try.prog 19 = some 8 := by kernel_rfl
theorem T.ag19 : aggT Try.prog 19 = some true := by kernel_rfl
theorem T.ze19 : zeroT Try.prog 19 = some [.nilP] := by kernel_rfl
theorem T.el19 : elT Try.prog 19 = none := by kernel_rfl
theorem T.fl19_0 : fldT Try.prog 19 0 = some (0, 17) := by kernel_rfl
theorem T.pl19 : plT Try.prog 19 = some (some [(0, 1)]) := by kernel_rfl
theorem T.sz22 : szT Try.prog 22 = some 1 := by kernel_rfl
theorem T.by22 : byT Try.prog 22 = some 24 := by kernel_rfl
theorem T.ag22 : aggT Try.prog 22 = some false := by kernel_rfl
theorem T.ze22 : zeroT Try.prog 22 = some [.nilS] := by kernel_rfl
theorem T.el22 : elT Try.prog 22 = some (42, 6) := by kernel_rfl
theorem T.sz23 : szT Try.prog 23 = some 1 := by kernel_rfl
theorem T.by23 : byT Try.prog 23 = some 24 := by kernel_rfl
theorem T.ag23 : aggT Try.prog 23 = some true := by kernel_rfl
theorem T.ze23 : zeroT Try.prog 23 = some [.nilS] := by kernel_rfl
theorem T.el23 : elT Try.prog 23 = none := by kernel_rfl
theorem T.fl23_0 : fldT Try.prog 23 0 = some (0, 22) := by kernel_rfl
theorem T.pl23 : plT Try.prog 23 = some (some [(0, 1)]) := by kernel_rfl
theorem T.sz24 : szT Try.prog 24 = some 1 := by kernel_rfl
theorem T.by24 : byT Try.prog 24 = some 24 := by kernel_rfl
theorem T.ag24 : aggT Try.prog 24 = some true := by kernel_rfl
theorem T.ze24 : zeroT Try.prog 24 = some [.nilS] := by kernel_rfl
theorem T.el24 : elT Try.prog 24 = none := by kernel_rfl
theorem T.fl24_0 : fldT Try.prog 24 0 = some (0, 22) := by kernel_rfl
theorem T.pl24 : plT Try.prog 24 = some (some [(0, 1)]) := by kernel_rfl
theorem T.sz25 : szT Try.prog 25 = some 1 := by kernel_rfl
theorem T.by25 : byT Try.prog 25 = some 8 := by kernel_rfl
theorem T.ag25 : aggT Try.prog 25 = some false := by kernel_rfl
theorem T.ze25 : zeroT Try.prog 25 = some [.nilF] := by kernel_rfl
theorem T.el25 : elT Try.prog 25 = none := by kernel_rfl
theorem T.fu25 : funcT Try.prog 25 = true := by kernel_rfl
theorem T.sz26 : szT Try.prog 26 = some 1 := by kernel_rfl
theorem T.by26 : byT Try.prog 26 = some 8 := by kernel_rfl
theorem T.ag26 : aggT Try.prog 26 = some false := by kernel_rfl
theorem T.ze26 : zeroT Try.prog 26 = some [.nilF] := by kernel_rfl
theorem T.el26 : elT Try.prog 26 = none := by kernel_rfl
theorem T.fu26 : funcT Try.prog 26 = true := by kernel_rfl
theorem T.sz27 : szT Try.prog 27 = some 1 := by kernel_rfl
theorem T.by27 : byT Try.prog 27 = some 8 := by kernel_rfl
theorem T.ag27 : aggT Try.prog 27 = some false := by kernel_rfl
theorem T.ze27 : zeroT Try.prog 27 = some [.nilF] := by kernel_rfl
theorem T.el27 : elT Try.prog 27 = none := by kernel_rfl
theorem T.fu27 : funcT Try.prog 27 = true := by kernel_rfl
theorem T.sz28 : szT Try.prog 28 = some 1 := by kernel_rfl
theorem T.by28 : byT Try.prog 28 = some 8 := by kernel_rfl
theorem T.ag28 : aggT Try.prog 28 = some false := by kernel_rfl
theorem T.ze28 : zeroT Try.prog 28 = some [(.int .i64 0)] := by kernel_rfl
theorem T.el28 : elT Try.prog 28 = none := by kernel_rfl
theorem T.bo28 : boolT Try.prog 28 = false := by kernel_rfl
theorem T.sz30 : szT Try.prog 30 = some 1 := by kernel_rfl
theorem T.by30 : byT Try.prog 30 = some 8 := by kernel_rfl
theorem T.ag30 : aggT Try.prog 30 = some false := by kernel_rfl
theorem T.ze30 : zeroT Try.prog 30 = some [.nilF] := by kernel_rfl
theorem T.el30 : elT Try.prog 30 = none := by kernel_rfl
theorem T.fu30 : funcT Try.prog 30 = true := by kernel_rfl
theorem T.sz31 : szT Try.prog 31 = some 1 := by kernel_rfl
theorem T.by31 : byT Try.prog 31 = some 8 := by kernel_rfl
theorem T.ag31 : aggT Try.prog 31 = some false := by kernel_rfl
theorem T.ze31 : zeroT Try.prog 31 = some [.nilF] := by kernel_rfl
theorem T.el31 : elT Try.prog 31 = none := by kernel_rfl
theorem T.fu31 : funcT Try.prog 31 = true := by kernel_rfl
theorem T.sz32 : szT Try.prog 32 = some 1 := by kernel_rfl
theorem T.by32 : byT Try.prog 32 = some 8 := by kernel_rfl
theorem T.ag32 : aggT Try.prog 32 = some false := by kernel_rfl
theorem T.ze32 : zeroT Try.prog 32 = some [.nilF] := by kernel_rfl
theorem T.el32 : elT Try.prog 32 = none := by kernel_rfl
theorem T.fu32 : funcT Try.prog 32 = true := by kernel_rfl
theorem T.sz33 : szT Try.prog 33 = some 1 := by kernel_rfl
theorem T.by33 : byT Try.prog 33 = some 8 := by kernel_rfl
theorem T.ag33 : aggT Try.prog 33 = some false := by kernel_rfl
theorem T.ze33 : zeroT Try.prog 33 = some [.nilF] := by kernel_rfl
theorem T.el33 : elT Try.prog 33 = none := by kernel_rfl
theorem T.fu33 : funcT Try.prog 33 = true := by kernel_rfl
theorem T.sz34 : szT Try.prog 34 = some 1 := by kernel_rfl
theorem T.by34 : byT Try.prog 34 = some 24 := by kernel_rfl
theorem T.ag34 : aggT Try.prog 34 = some false := by kernel_rfl
theorem T.ze34 : zeroT Try.prog 34 = some [.nilS] := by kernel_rfl
theorem T.el34 : elT Try.prog 34 = some (3, 1) := by kernel_rfl
theorem T.sz36 : szT Try.prog 36 = some 1 := by kernel_rfl
theorem T.by36 : byT Try.prog 36 = some 8 := by kernel_rfl
theorem T.ag36 : aggT Try.prog 36 = some false := by kernel_rfl
theorem T.ze36 : zeroT Try.prog 36 = some [.nilF] := by kernel_rfl
theorem T.el36 : elT Try.prog 36 = none := by kernel_rfl
theorem T.fu36 : funcT Try.prog 36 = true := by kernel_rfl
theorem T.sz37 : szT Try.prog 37 = some 1 := by kernel_rfl
theorem T.by37 : byT Try.prog 37 = some 8 := by kernel_rfl
theorem T.ag37 : aggT Try.prog 37 = some false := by kernel_rfl
theorem T.ze37 : zeroT Try.prog 37 = some [.nilF] := by kernel_rfl
theorem T.el37 : elT Try.prog 37 = none := by kernel_rfl
theorem T.fu37 : funcT Try.prog 37 = true := by kernel_rfl
theorem T.sz38 : szT Try.prog 38 = some 1 := by kernel_rfl
theorem T.by38 : byT Try.prog 38 = some 8 := by kernel_rfl
theorem T.ag38 : aggT Try.prog 38 = some false := by kernel_rfl
theorem T.ze38 : zeroT Try.prog 38 = some [.nilF] := by kernel_rfl
theorem T.el38 : elT Try.prog 38 = none := by kernel_rfl
theorem T.fu38 : funcT Try.prog 38 = true := by kernel_rfl
theorem T.sz39 : szT Try.prog 39 = some 2 := by kernel_rfl
theorem T.by39 : byT Try.prog 39 = some 16 := by kernel_rfl
theorem T.ag39 : aggT Try.prog 39 = some true := by kernel_rfl
theorem T.ze39 : zeroT Try.prog 39 = some [(.int .i64 0), (.int .i64 0)] := by kernel_rfl
theorem T.el39 : elT Try.prog 39 = none := by kernel_rfl
theorem T.fl39_0 : fldT Try.prog 39 0 = some (0, 3) := by kernel_rfl
theorem T.fl39_1 : fldT Try.prog 39 1 = some (1, 3) := by kernel_rfl
theorem T.pl39 : plT Try.prog 39 = some (some [(0, 1), (1, 1)]) := by kernel_rfl
theorem T.fi39 : flatI Try.prog 39 = true := by kernel_rfl
theorem T.fn39 : flatN Try.prog 39 = 2 := by kernel_rfl
theorem T.sz40 : szT Try.prog 40 = some 2 := by kernel_rfl
theorem T.by40 : byT Try.prog 40 = some 16 := by kernel_rfl
theorem T.ag40 : aggT Try.prog 40 = some true := by kernel_rfl
theorem T.ze40 : zeroT Try.prog 40 = some [(.int .i64 0), (.int .i64 0)] := by kernel_rfl
theorem T.el40 : elT Try.prog 40 = none := by kernel_rfl
theorem T.fl40_0 : fldT Try.prog 40 0 = some (0, 3) := by kernel_rfl
theorem T.fl40_1 : fldT Try.prog 40 1 = some (1, 3) := by kernel_rfl
theorem T.pl40 : plT Try.prog 40 = some (some [(0, 1), (1, 1)]) := by kernel_rfl
theorem T.fi40 : flatI Try.prog 40 = true := by kernel_rfl
theorem T.fn40 : flatN Try.prog 40 = 2 := by kernel_rfl
theorem T.sz41 : szT Try.prog 41 = some 6 := by kernel_rfl
theorem T.by41 : byT Try.prog 41 = some 48 := by kernel_rfl
theorem T.ag41 : aggT Try.prog 41 = some true := by kernel_rfl
theorem T.ze41 : zeroT Try.prog 41 = some [(.int .i64 0), (.int .i64 0), (.int .i64 0), (.int .i64 0), (.int .i64 0), (.int .i64 0)] := by kernel_rfl
theorem T.el41 : elT Try.prog 41 = none := by kernel_rfl
theorem T.fl41_0 : fldT Try.prog 41 0 = some (0, 3) := by kernel_rfl
theorem T.fl41_1 : fldT Try.prog 41 1 = some (1, 40) := by kernel_rfl
theorem T.fl41_2 : fldT Try.prog 41 2 = some (3, 3) := by kernel_rfl
theorem T.fl41_3 : fldT Try.prog 41 3 = some (4, 3) := by kernel_rfl
theorem T.fl41_4 : fldT Try.prog 41 4 = some (5, 3) := by kernel_rfl
theorem T.pl41 : plT Try.prog 41 = some (some [(0, 1), (1, 2), (3, 1), (4, 1), (5, 1)]) := by kernel_rfl
theorem T.fi41 : flatI Try.prog 41 = true := by kernel_rfl
theorem T.fn41 : flatN Try.prog 41 = 6 := by kernel_rfl
theorem T.sz42 : szT Try.prog 42 = some 6 := by kernel_rfl
theorem T.by42 : byT Try.prog 42 = some 48 := by kernel_rfl
theorem T.ag42 : aggT Try.prog 42 = some true := by kernel_rfl
theorem T.ze42 : zeroT Try.prog 42 = some [(.int .i64 0), (.int .i64 0), (.int .i64 0), (.int .i64 0), (.int .i64 0), (.int .i64 0)] := by kernel_rfl
theorem T.el42 : elT Try.prog 42 = none := by kernel_rfl
theorem T.fl42_0 : fldT Try.prog 42 0 = some (0, 3) := by kernel_rfl
theorem T.fl42_1 : fldT Try.prog 42 1 = some (1, 40) := by kernel_rfl
theorem T.fl42_2 : fldT Try.prog 42 2 = some (3, 3) := by kernel_rfl
theorem T.fl42_3 : fldT Try.prog 42 3 = some (4, 3) := by kernel_rfl
theorem T.fl42_4 : fldT Try.prog 42 4 = some (5, 3) := by kernel_rfl
theorem T.pl42 : plT Try.prog 42 = some (some [(0, 1), (1, 2), (3, 1), (4, 1), (5, 1)]) := by kernel_rfl
theorem T.fi42 : flatI Try.prog 42 = true := by kernel_rfl
theorem T.fn42 : flatN Try.prog 42 = 6 := by kernel_rfl
theorem T.sz43 : szT Try.prog 43 = some 1 := by kernel_rfl
theorem T.by43 : byT Try.prog 43 = some 8 := by kernel_rfl
theorem T.ag43 : aggT Try.prog 43 = some false := by kernel_rfl
theorem T.ze43 : zeroT Try.prog 43 = some [.nilF] := by kernel_rfl
theorem T.el43 : elT Try.prog 43 = none := by kernel_rfl
theorem T.fu43 : funcT Try.prog 43 = true := by kernel_rfl
theorem T.sz44 : szT Try.prog 44 = some 1 := by kernel_rfl
theorem T.by44 : byT Try.prog 44 = some 8 := by kernel_rfl
theorem T.ag44 : aggT Try.prog 44 = some false := by kernel_rfl
theorem T.ze44 : zeroT Try.prog 44 = some [.nilF] := by kernel_rfl
theorem T.el44 : elT Try.prog 44 = none := by kernel_rfl
theorem T.fu44 : funcT Try.prog 44 = true := by kernel_rfl
theorem T.sz46 : szT Try.prog 46 = some 1 := by kernel_rfl
theorem T.by46 : byT Try.prog 46 = some 8 := by kernel_rfl
theorem T.ag46 : aggT Try.prog 46 = some false := by kernel_rfl
theorem T.ze46 : zeroT Try.prog 46 = some [.nilF] := by kernel_rfl
theorem T.el46 : elT Try.prog 46 = none := by kernel_rfl
theorem T.fu46 : funcT Try.prog 46 = true := by kernel_rfl
theorem T.sz47 : szT Try.prog 47 = some 1 := by kernel_rfl
theorem T.by47 : byT Try.prog 47 = some 8 := by kernel_rfl
theorem T.ag47 : aggT Try.prog 47 = some false := by kernel_rfl
theorem T.ze47 : zeroT Try.prog 47 = some [.nilF] := by kernel_rfl
theorem T.el47 : elT Try.prog 47 = none := by kernel_rfl
theorem T.fu47 : funcT Try.prog 47 = true := by kernel_rfl
theorem T.sz48 : szT Try.prog 48 = some 1 := by kernel_rfl
theorem T.by48 : byT Try.prog 48 = some 8 := by kernel_rfl
theorem T.ag48 : aggT Try.prog 48 = some false := by kernel_rfl
theorem T.ze48 : zeroT Try.prog 48 = some [.nilF] := by kernel_rfl
theorem T.el48 : elT Try.prog 48 = none := by kernel_rfl
theorem T.fu48 : funcT Try.prog 48 = true := by kernel_rfl
theorem T.sz50 : szT Try.prog 50 = some 1 := by kernel_rfl
theorem T.by50 : byT Try.prog 50 = some 8 := by kernel_rfl
theorem T.ag50 : aggT Try.prog 50 = some false := by kernel_rfl
theorem T.ze50 : zeroT Try.prog 50 = some [.nilF] := by kernel_rfl
theorem T.el50 : elT Try.prog 50 = none := by kernel_rfl
theorem T.fu50 : funcT Try.prog 50 = true := by kernel_rfl
theorem T.sz51 : szT Try.prog 51 = some 1 := by kernel_rfl
theorem T.by51 : byT Try.prog 51 = some 8 := by kernel_rfl
theorem T.ag51 : aggT Try.prog 51 = some false := by kernel_rfl
theorem T.ze51 : zeroT Try.prog 51 = some [.nilF] := by kernel_rfl
theorem T.el51 : elT Try.prog 51 = none := by kernel_rfl
theorem T.fu51 : funcT Try.prog 51 = true := by kernel_rfl
theorem T.sz52 : szT Try.prog 52 = some 1 := by kernel_rfl
theorem T.by52 : byT Try.prog 52 = some 8 := by kernel_rfl
theorem T.ag52 : aggT Try.prog 52 = some false := by kernel_rfl
theorem T.ze52 : zeroT Try.prog 52 = some [.nilF] := by kernel_rfl
theorem T.el52 : elT Try.prog 52 = none := by kernel_rfl
theorem T.fu52 : funcT Try.prog 52 = true := by kernel_rfl
theorem T.sz53 : szT Try.prog 53 = some 1 := by kernel_rfl
theorem T.by53 : byT Try.prog 53 = some 8 := by kernel_rfl
theorem T.ag53 : aggT Try.prog 53 = some false := by kernel_rfl
theorem T.ze53 : zeroT Try.prog 53 = some [.nilF] := by kernel_rfl
theorem T.el53 : elT Try.prog 53 = none := by kernel_rfl
theorem T.fu53 : funcT Try.prog 53 = true := by kernel_rfl
theorem T.sz55 : szT Try.prog 55 = some 1 := by kernel_rfl
theorem T.by55 : byT Try.prog 55 = some 8 := by kernel_rfl
theorem T.ag55 : aggT Try.prog 55 = some false := by kernel_rfl
theorem T.ze55 : zeroT Try.prog 55 = some [.nilF] := by kernel_rfl
theorem T.el55 : elT Try.prog 55 = none := by kernel_rfl
theorem T.fu55 : funcT Try.prog 55 = true := by kernel_rfl
theorem T.sz56 : szT Try.prog 56 = some 1 := by kernel_rfl
theorem T.by56 : byT Try.prog 56 = some 8 := by kernel_rfl
theorem T.ag56 : aggT Try.prog 56 = some false := by kernel_rfl
theorem T.ze56 : zeroT Try.prog 56 = some [.nilF] := by kernel_rfl
theorem T.el56 : elT Try.prog 56 = none := by kernel_rfl
theorem T.fu56 : funcT Try.prog 56 = true := by kernel_rfl
theorem T.sz57 : szT Try.prog 57 = some 1 := by kernel_rfl
theorem T.by57 : byT Try.prog 57 = some 8 := by kernel_rfl
theorem T.ag57 : aggT Try.prog 57 = some false := by kernel_rfl
theorem T.ze57 : zeroT Try.prog 57 = some [.nilF] := by kernel_rfl
theorem T.el57 : elT Try.prog 57 = none := by kernel_rfl
theorem T.fu57 : funcT Try.prog 57 = true := by kernel_rfl
theorem T.sz58 : szT Try.prog 58 = some 1 := by kernel_rfl
theorem T.by58 : byT Try.prog 58 = some 8 := by kernel_rfl
theorem T.ag58 : aggT Try.prog 58 = some false := by kernel_rfl
theorem T.ze58 : zeroT Try.prog 58 = some [.nilF] := by kernel_rfl
theorem T.el58 : elT Try.prog 58 = none := by kernel_rfl
theorem T.fu58 : funcT Try.prog 58 = true := by kernel_rfl
theorem T.sz59 : szT Try.prog 59 = some 1 := by kernel_rfl
theorem T.by59 : byT Try.prog 59 = some 8 := by kernel_rfl
theorem T.ag59 : aggT Try.prog 59 = some false := by kernel_rfl
theorem T.ze59 : zeroT Try.prog 59 = some [.nilF] := by kernel_rfl
theorem T.el59 : elT Try.prog 59 = none := by kernel_rfl
theorem T.fu59 : funcT Try.prog 59 = true := by kernel_rfl
theorem T.sz60 : szT Try.prog 60 = some 1 := by kernel_rfl
theorem T.by60 : byT Try.prog 60 = some 8 := by kernel_rfl
theorem T.ag60 : aggT Try.prog 60 = some false := by kernel_rfl
theorem T.ze60 : zeroT Try.prog 60 = some [.nilF] := by kernel_rfl
theorem T.el60 : elT Try.prog 60 = none := by kernel_rfl
theorem T.fu60 : funcT Try.prog 60 = true := by kernel_rfl
theorem T.sz61 : szT Try.prog 61 = some 1 := by kernel_rfl
theorem T.by61 : byT Try.prog 61 = some 8 := by kernel_rfl
theorem T.ag61 : aggT Try.prog 61 = some false := by kernel_rfl
theorem T.ze61 : zeroT Try.prog 61 = some [.nilF] := by kernel_rfl
theorem T.el61 : elT Try.prog 61 = none := by kernel_rfl
theorem T.fu61 : funcT Try.prog 61 = true := by kernel_rfl
theorem T.sz62 : szT Try.prog 62 = some 1 := by kernel_rfl
theorem T.by62 : byT Try.prog 62 = some 8 := by kernel_rfl
theorem T.ag62 : aggT Try.prog 62 = some false := by kernel_rfl
theorem T.ze62 : zeroT Try.prog 62 = some [.nilF] := by kernel_rfl
theorem T.el62 : elT Try.prog 62 = none := by kernel_rfl
theorem T.fu62 : funcT Try.prog 62 = true := by kernel_rfl
theorem T.sz63 : szT Try.prog 63 = some 1 := by kernel_rfl
theorem T.by63 : byT Try.prog 63 = some 8 := by kernel_rfl
theorem T.ag63 : aggT Try.prog 63 = some false := by kernel_rfl
theorem T.ze63 : zeroT Try.prog 63 = some [.nilF] := by kernel_rfl
theorem T.el63 : elT Try.prog 63 = none := by kernel_rfl
theorem T.fu63 : funcT Try.prog 63 = true := by kernel_rfl
theorem T.sz64 : szT Try.prog 64 = some 1 := by kernel_rfl
theorem T.by64 : byT Try.prog 64 = some 24 := by kernel_rfl
theorem T.ag64 : aggT Try.prog 64 = some true := by kernel_rfl
theorem T.ze64 : zeroT Try.prog 64 = some [.nilS] := by kernel_rfl
theorem T.el64 : elT Try.prog 64 = none := by kernel_rfl
theorem T.fl64_0 : fldT Try.prog 64 0 = some (0, 24) := by kernel_rfl
theorem T.pl64 : plT Try.prog 64 = some (some [(0, 1)]) := by kernel_rfl
theorem T.sz65 : szT Try.prog 65 = some 1 := by kernel_rfl
theorem T.by65 : byT Try.prog 65 = some 24 := by kernel_rfl
theorem T.ag65 : aggT Try.prog 65 = some true := by kernel_rfl
theorem T.ze65 : zeroT Try.prog 65 = some [.nilS] := by kernel_rfl
theorem T.el65 : elT Try.prog 65 = none := by kernel_rfl
theorem T.fl65_0 : fldT Try.prog 65 0 = some (0, 24) := by kernel_rfl
theorem T.pl65 : plT Try.prog 65 = some (some [(0, 1)]) := by kernel_rfl
theorem T.sz67 : szT Try.prog 67 = some 1 := by kernel_rfl
theorem T.by67 : byT Try.prog 67 = some 8 := by kernel_rfl
theorem T.ag67 : aggT Try.prog 67 = some false := by kernel_rfl
theorem T.ze67 : zeroT Try.prog 67 = some [.nilF] := by kernel_rfl
theorem T.el67 : elT Try.prog 67 = none := by kernel_rfl
theorem T.fu67 : funcT Try.prog 67 = true := by kernel_rfl
theorem T.sz68 : szT Try.prog 68 = some 1 := by kernel_rfl
theorem T.by68 : byT Try.prog 68 = some 8 := by kernel_rfl
theorem T.ag68 : aggT Try.prog 68 = some false := by kernel_rfl
theorem T.ze68 : zeroT Try.prog 68 = some [.nilF] := by kernel_rfl
theorem T.el68 : elT Try.prog 68 = none := by kernel_rfl
theorem T.fu68 : funcT Try.prog 68 = true := by kernel_rfl
theorem T.sz69 : szT Try.prog 69 = some 1 := by kernel_rfl
theorem T.by69 : byT Try.prog 69 = some 8 := by kernel_rfl
theorem T.ag69 : aggT Try.prog 69 = some false := by kernel_rfl
theorem T.ze69 : zeroT Try.prog 69 = some [.nilF] := by kernel_rfl
theorem T.el69 : elT Try.prog 69 = none := by kernel_rfl
theorem T.fu69 : funcT Try.prog 69 = true := by kernel_rfl
theorem T.sz71 : szT Try.prog 71 = some 1 := by kernel_rfl
theorem T.by71 : byT Try.prog 71 = some 8 := by kernel_rfl
theorem T.ag71 : aggT Try.prog 71 = some false := by kernel_rfl
theorem T.ze71 : zeroT Try.prog 71 = some [.nilF] := by kernel_rfl
theorem T.el71 : elT Try.prog 71 = none := by kernel_rfl
theorem T.fu71 : funcT Try.prog 71 = true := by kernel_rfl
theorem T.sz72 : szT Try.prog 72 = some 1 := by kernel_rfl
theorem T.by72 : byT Try.prog 72 = some 8 := by kernel_rfl
theorem T.ag72 : aggT Try.prog 72 = some false := by kernel_rfl
theorem T.ze72 : zeroT Try.prog 72 = some [.nilF] := by kernel_rfl
theorem T.el72 : elT Try.prog 72 = none := by kernel_rfl
theorem T.fu72 : funcT Try.prog 72 = true := by kernel_rfl
theorem T.sz74 : szT Try.prog 74 = some 1 := by kernel_rfl
theorem T.by74 : byT Try.prog 74 = some 8 := by kernel_rfl
theorem T.ag74 : aggT Try.prog 74 = some false := by kernel_rfl
theorem T.ze74 : zeroT Try.prog 74 = some [.nilF] := by kernel_rfl
theorem T.el74 : elT Try.prog 74 = none := by kernel_rfl
theorem T.fu74 : funcT Try.prog 74 = true := by kernel_rfl
theorem T.sz75 : szT Try.prog 75 = some 1 := by kernel_rfl
theorem T.by75 : byT Try.prog 75 = some 24 := by kernel_rfl
theorem T.ag75 : aggT Try.prog 75 = some false := by kernel_rfl
theorem T.ze75 : zeroT Try.prog 75 = some [.nilS] := by kernel_rfl
theorem T.el75 : elT Try.prog 75 = some (34, 1) := by kernel_rfl
theorem T.sz76 : szT Try.prog 76 = some 1 := by kernel_rfl
theorem T.by76 : byT Try.prog 76 = some 8 := by kernel_rfl
theorem T.ag76 : aggT Try.prog 76 = some false := by kernel_rfl
theorem T.ze76 : zeroT Try.prog 76 = some [.nilF] := by kernel_rfl
theorem T.el76 : elT Try.prog 76 = none := by kernel_rfl
theorem T.fu76 : funcT Try.prog 76 = true := by kernel_rfl
theorem T.sz77 : szT Try.prog 77 = some 1 := by kernel_rfl
theorem T.by77 : byT Try.prog 77 = some 8 := by kernel_rfl
theorem T.ag77 : aggT Try.prog 77 = some false := by kernel_rfl
theorem T.ze77 : zeroT Try.prog 77 = some [.nilF] := by kernel_rfl
theorem T.el77 : elT Try.prog 77 = none := by kernel_rfl
theorem T.fu77 : funcT Try.prog 77 = true := by kernel_rfl
theorem T.sz78 : szT Try.prog 78 = some 1 := by kernel_rfl
theorem T.by78 : byT Try.prog 78 = some 8 := by kernel_rfl
theorem T.ag78 : aggT Try.prog 78 = some false := by kernel_rfl
theorem T.ze78 : zeroT Try.prog 78 = some [.nilF] := by kernel_rfl
theorem T.el78 : elT Try.prog 78 = none := by kernel_rfl
theorem T.fu78 : funcT Try.prog 78 = true := by kernel_rfl
theorem T.sz79 : szT Try.prog 79 = some 1 := by kernel_rfl
theorem T.by79 : byT Try.prog 79 = some 8 := by kernel_rfl
theorem T.ag79 : aggT Try.prog 79 = some false := by kernel_rfl
theorem T.ze79 : zeroT Try.prog 79 = some [.nilF] := by kernel_rfl
theorem T.el79 : elT Try.prog 79 = none := by kernel_rfl
theorem T.fu79 : funcT Try.prog 79 = true := by kernel_rfl
theorem T.sz80 : szT Try.prog 80 = some 1 := by kernel_rfl
theorem T.by80 : byT Try.prog 80 = some 8 := by kernel_rfl
theorem T.ag80 : aggT Try.prog 80 = some false := by kernel_rfl
theorem T.ze80 : zeroT Try.prog 80 = some [.nilF] := by kernel_rfl
theorem T.el80 : elT Try.prog 80 = none := by kernel_rfl
theorem T.fu80 : funcT Try.prog 80 = true := by kernel_rfl
theorem T.sz81 : szT Try.prog 81 = some 1 := by kernel_rfl
theorem T.by81 : byT Try.prog 81 = some 8 := by kernel_rfl
theorem T.ag81 : aggT Try.prog 81 = some false := by kernel_rfl
theorem T.ze81 : zeroT Try.prog 81 = some [.nilF] := by kernel_rfl
theorem T.el81 : elT Try.prog 81 = none := by kernel_rfl
theorem T.fu81 : funcT Try.prog 81 = true := by kernel_rfl
theorem T.sz82 : szT Try.prog 82 = some 1 := by kernel_rfl
theorem T.by82 : byT Try.prog 82 = some 8 := by kernel_rfl
theorem T.ag82 : aggT Try.prog 82 = some false := by kernel_rfl
theorem T.ze82 : zeroT Try.prog 82 = some [.nilF] := by kernel_rfl
theorem T.el82 : elT Try.prog 82 = none := by kernel_rfl
theorem T.fu82 : funcT Try.prog 82 = true := by kernel_rfl
theorem T.sz83 : szT Try.prog 83 = some 1 := by kernel_rfl
theorem T.by83 : byT Try.prog 83 = some 8 := by kernel_rfl
theorem T.ag83 : aggT Try.prog 83 = some false := by kernel_rfl
theorem T.ze83 : zeroT Try.prog 83 = some [.nilF] := by kernel_rfl
theorem T.el83 : elT Try.prog 83 = none := by kernel_rfl
theorem T.fu83 : funcT Try.prog 83 = true := by kernel_rfl
theorem T.sz84 : szT Try.prog 84 = some 1 := by kernel_rfl
theorem T.by84 : byT Try.prog 84 = some 8 := by kernel_rfl
theorem T.ag84 : aggT Try.prog 84 = some false := by kernel_rfl
theorem T.ze84 : zeroT Try.prog 84 = some [.nilF] := by kernel_rfl
theorem T.el84 : elT Try.prog 84 = none := by kernel_rfl
theorem T.fu84 : funcT Try.prog 84 = true := by kernel_rfl
theorem T.sz85 : szT Try.prog 85 = some 1 := by kernel_rfl
theorem T.by85 : byT Try.prog 85 = some 8 := by kernel_rfl
theorem T.ag85 : aggT Try.prog 85 = some false := by kernel_rfl
theorem T.ze85 : zeroT Try.prog 85 = some [.nilF] := by kernel_rfl
theorem T.el85 : elT Try.prog 85 = none := by kernel_rfl
theorem T.fu85 : funcT Try.prog 85 = true := by kernel_rfl
theorem T.sz86 : szT Try.prog 86 = some 1 := by kernel_rfl
theorem T.by86 : byT Try.prog 86 = some 8 := by kernel_rfl
theorem T.ag86 : aggT Try.prog 86 = some false := by kernel_rfl
theorem T.ze86 : zeroT Try.prog 86 = some [.nilF] := by kernel_rfl
theorem T.el86 : elT Try.prog 86 = none := by kernel_rfl
theorem T.fu86 : funcT Try.prog 86 = true := by kernel_rfl
theorem T.sz87 : szT Try.prog 87 = some 1 := by kernel_rfl
theorem T.by87 : byT Try.prog 87 = some 8 := by kernel_rfl
theorem T.ag87 : aggT Try.prog 87 = some false := by kernel_rfl
theorem T.ze87 : zeroT Try.prog 87 = some [.nilF] := by kernel_rfl
theorem T.el87 : elT Try.prog 87 = none := by kernel_rfl
theorem T.fu87 : funcT Try.prog 87 = true := by kernel_rfl
theorem T.sz88 : szT Try.prog 88 = some 1 := by kernel_rfl
theorem T.by88 : byT Try.prog 88 = some 8 := by kernel_rfl
theorem T.ag88 : aggT Try.prog 88 = some false := by kernel_rfl
theorem T.ze88 : zeroT Try.prog 88 = some [.nilF] := by kernel_rfl
theorem T.el88 : elT Try.prog 88 = none := by kernel_rfl
theorem T.fu88 : funcT Try.prog 88 = true := by kernel_rfl
theorem T.sz89 : szT Try.prog 89 = some 1 := by kernel_rfl
theorem T.by89 : byT Try.prog 89 = some 8 := by kernel_rfl
theorem T.ag89 : aggT Try.prog 89 = some false := by kernel_rfl
theorem T.ze89 : zeroT Try.prog 89 = some [.nilF] := by kernel_rfl
theorem T.el89 : elT Try.prog 89 = none := by kernel_rfl
theorem T.fu89 : funcT Try.prog 89 = true := by kernel_rfl
theorem T.sz90 : szT Try.prog 90 = some 1 := by kernel_rfl
theorem T.by90 : byT Try.prog 90 = some 8 := by kernel_rfl
theorem T.ag90 : aggT Try.prog 90 = some false := by kernel_rfl
theorem T.ze90 : zeroT Try.prog 90 = some [.nilF] := by kernel_rfl
theorem T.el90 : elT Try.prog 90 = none := by kernel_rfl
theorem T.fu90 : funcT Try.prog 90 = true := by kernel_rfl
theorem T.sz91 : szT Try.prog 91 = some 1 := by kernel_rfl
theorem T.by91 : byT Try.prog 91 = some 8 := by kernel_rfl
theorem T.ag91 : aggT Try.prog 91 = some false := by kernel_rfl
theorem T.ze91 : zeroT Try.prog 91 = some [.nilF] := by kernel_rfl
theorem T.el91 : elT Try.prog 91 = none := by kernel_rfl
theorem T.fu91 : funcT Try.prog 91 = true := by kernel_rfl
theorem T.sz93 : szT Try.prog 93 = some 1 := by kernel_rfl
theorem T.by93 : byT Try.prog 93 = some 8 := by kernel_rfl
theorem T.ag93 : aggT Try.prog 93 = some false := by kernel_rfl
theorem T.ze93 : zeroT Try.prog 93 = some [.nilF] := by kernel_rfl
theorem T.el93 : elT Try.prog 93 = none := by kernel_rfl
theorem T.fu93 : funcT Try.prog 93 = true := by kernel_rfl
theorem T.sz94 : szT Try.prog 94 = some 1 := by kernel_rfl
theorem T.by94 : byT Try.prog 94 = some 8 := by kernel_rfl
theorem T.ag94 : aggT Try.prog 94 = some false := by kernel_rfl
theorem T.ze94 : zeroT Try.prog 94 = some [.nilF] := by kernel_rfl
theorem T.el94 : elT Try.prog 94 = none := by kernel_rfl
theorem T.fu94 : funcT Try.prog 94 = true := by kernel_rfl
theorem T.sz95 : szT Try.prog 95 = some 1 := by kernel_rfl
theorem T.by95 : byT Try.prog 95 = some 8 := by kernel_rfl
theorem T.ag95 : aggT Try.prog 95 = some false := by kernel_rfl
theorem T.ze95 : zeroT Try.prog 95 = some [.nilF] := by kernel_rfl
theorem T.el95 : elT Try.prog 95 = none := by kernel_rfl
theorem T.fu95 : funcT Try.prog 95 = true := by kernel_rfl
theorem T.sz96 : szT Try.prog 96 = some 1 := by kernel_rfl
theorem T.by96 : byT Try.prog 96 = some 8 := by kernel_rfl
theorem T.ag96 : aggT Try.prog 96 = some false := by kernel_rfl
theorem T.ze96 : zeroT Try.prog 96 = some [.any] := by kernel_rfl
theorem T.el96 : elT Try.prog 96 = none := by kernel_rfl
theorem T.mt96 : mapTy Try.prog 96 = some .i64 := by kernel_rfl
theorem T.sz97 : szT Try.prog 97 = some 1 := by kernel_rfl
theorem T.by97 : byT Try.prog 97 = some 8 := by kernel_rfl
theorem T.ag97 : aggT Try.prog 97 = some false := by kernel_rfl
theorem T.ze97 : zeroT Try.prog 97 = some [.nilF] := by kernel_rfl
theorem T.el97 : elT Try.prog 97 = none := by kernel_rfl
theorem T.fu97 : funcT Try.prog 97 = true := by kernel_rfl
theorem T.sz98 : szT Try.prog 98 = some 2 := by kernel_rfl
theorem T.by98 : byT Try.prog 98 = some 16 := by kernel_rfl
theorem T.ag98 : aggT Try.prog 98 = some true := by kernel_rfl
theorem T.ze98 : zeroT Try.prog 98 = some [(.int .i64 0), (.int .i64 0)] := by kernel_rfl
theorem T.el98 : elT Try.prog 98 = none := by kernel_rfl
theorem T.fl98_0 : fldT Try.prog 98 0 = some (0, 3) := by kernel_rfl
theorem T.fl98_1 : fldT Try.prog 98 1 = some (1, 3) := by kernel_rfl
theorem T.pl98 : plT Try.prog 98 = some (some [(0, 1), (1, 1)]) := by kernel_rfl
theorem T.fi98 : flatI Try.prog 98 = true := by kernel_rfl
theorem T.fn98 : flatN Try.prog 98 = 2 := by kernel_rfl
theorem T.sz99 : szT Try.prog 99 = some 2 := by kernel_rfl
theorem T.by99 : byT Try.prog 99 = some 16 := by kernel_rfl
theorem T.ag99 : aggT Try.prog 99 = some true := by kernel_rfl
theorem T.ze99 : zeroT Try.prog 99 = some [(.int .i64 0), (.int .i64 0)] := by kernel_rfl
theorem T.el99 : elT Try.prog 99 = none := by kernel_rfl
theorem T.fl99_0 : fldT Try.prog 99 0 = some (0, 3) := by kernel_rfl
theorem T.fl99_1 : fldT Try.prog 99 1 = some (1, 3) := by kernel_rfl
theorem T.pl99 : plT Try.prog 99 = some (some [(0, 1), (1, 1)]) := by kernel_rfl
theorem T.fi99 : flatI Try.prog 99 = true := by kernel_rfl
theorem T.fn99 : flatN Try.prog 99 = 2 := by kernel_rfl
theorem T.sz100 : szT Try.prog 100 = some 4 := by kernel_rfl
theorem T.by100 : byT Try.prog 100 = some 32 := by kernel_rfl
theorem T.ag100 : aggT Try.prog 100 = some true := by kernel_rfl
theorem T.ze100 : zeroT Try.prog 100 = some [(.int .i64 0), (.int .i64 0), (.int .i64 0), (.int .i64 0)] := by kernel_rfl
theorem T.el100 : elT Try.prog 100 = none := by kernel_rfl
theorem T.fl100_0 : fldT Try.prog 100 0 = some (0, 99) := by kernel_rfl
theorem T.fl100_1 : fldT Try.prog 100 1 = some (2, 99) := by kernel_rfl
theorem T.pl100 : plT Try.prog 100 = some (some [(0, 2), (2, 2)]) := by kernel_rfl
theorem T.fi100 : flatI Try.prog 100 = true := by kernel_rfl
theorem T.fn100 : flatN Try.prog 100 = 4 := by kernel_rfl
theorem T.sz101 : szT Try.prog 101 = some 4 := by kernel_rfl
theorem T.by101 : byT Try.prog 101 = some 32 := by kernel_rfl
theorem T.ag101 : aggT Try.prog 101 = some true := by kernel_rfl
theorem T.ze101 : zeroT Try.prog 101 = some [(.int .i64 0), (.int .i64 0), (.int .i64 0), (.int .i64 0)] := by kernel_rfl
theorem T.el101 : elT Try.prog 101 = none := by kernel_rfl
theorem T.fl101_0 : fldT Try.prog 101 0 = some (0, 99) := by kernel_rfl
theorem T.fl101_1 : fldT Try.prog 101 1 = some (2, 99) := by kernel_rfl
theorem T.pl101 : plT Try.prog 101 = some (some [(0, 2), (2, 2)]) := by kernel_rfl
theorem T.fi101 : flatI Try.prog 101 = true := by kernel_rfl
theorem T.fn101 : flatN Try.prog 101 = 4 := by kernel_rfl
theorem T.sz102 : szT Try.prog 102 = some 1 := by kernel_rfl
theorem T.by102 : byT Try.prog 102 = some 8 := by kernel_rfl
theorem T.ag102 : aggT Try.prog 102 = some false := by kernel_rfl
theorem T.ze102 : zeroT Try.prog 102 = some [.nilF] := by kernel_rfl
theorem T.el102 : elT Try.prog 102 = none := by kernel_rfl
theorem T.fu102 : funcT Try.prog 102 = true := by kernel_rfl
theorem T.sz103 : szT Try.prog 103 = some 1 := by kernel_rfl
theorem T.by103 : byT Try.prog 103 = some 8 := by kernel_rfl
theorem T.ag103 : aggT Try.prog 103 = some false := by kernel_rfl
theorem T.ze103 : zeroT Try.prog 103 = some [.nilF] := by kernel_rfl
theorem T.el103 : elT Try.prog 103 = none := by kernel_rfl
theorem T.fu103 : funcT Try.prog 103 = true := by kernel_rfl
theorem T.sz104 : szT Try.prog 104 = some 1 := by kernel_rfl
theorem T.by104 : byT Try.prog 104 = some 8 := by kernel_rfl
theorem T.ag104 : aggT Try.prog 104 = some false := by kernel_rfl
theorem T.ze104 : zeroT Try.prog 104 = some [.nilF] := by kernel_rfl
theorem T.el104 : elT Try.prog 104 = none := by kernel_rfl
theorem T.fu104 : funcT Try.prog 104 = true := by kernel_rfl
theorem T.sz105 : szT Try.prog 105 = some 1 := by kernel_rfl
theorem T.by105 : byT Try.prog 105 = some 8 := by kernel_rfl
theorem T.ag105 : aggT Try.prog 105 = some false := by kernel_rfl
theorem T.ze105 : zeroT Try.prog 105 = some [.nilF] := by kernel_rfl
theorem T.el105 : elT Try.prog 105 = none := by kernel_rfl
theorem T.fu105 : funcT Try.prog 105 = true := by kernel_rfl
theorem T.sz106 : szT Try.prog 106 = some 1 := by kernel_rfl
theorem T.by106 : byT Try.prog 106 = some 8 := by kernel_rfl
theorem T.ag106 : aggT Try.prog 106 = some false := by kernel_rfl
theorem T.ze106 : zeroT Try.prog 106 = some [.nilF] := by kernel_rfl
theorem T.el106 : elT Try.prog 106 = none := by kernel_rfl
theorem T.fu106 : funcT Try.prog 106 = true := by kernel_rfl
theorem T.sz107 : szT Try.prog 107 = some 1 := by kernel_rfl
theorem T.by107 : byT Try.prog 107 = some 8 := by kernel_rfl
theorem T.ag107 : aggT Try.prog 107 = some false := by kernel_rfl
theorem T.ze107 : zeroT Try.prog 107 = some [.nilF] := by kernel_rfl
theorem T.el107 : elT Try.prog 107 = none := by kernel_rfl
theorem T.fu107 : funcT Try.prog 107 = true := by kernel_rfl
theorem T.sz108 : szT Try.prog 108 = some 1 := by kernel_rfl
theorem T.by108 : byT Try.prog 108 = some 8 := by kernel_rfl
theorem T.ag108 : aggT Try.prog 108 = some false := by kernel_rfl
theorem T.ze108 : zeroT Try.prog 108 = some [(.int .u64 0)] := by kernel_rfl
theorem T.el108 : elT Try.prog 108 = none := by kernel_rfl
theorem T.bo108 : boolT Try.prog 108 = false := by kernel_rfl
theorem T.sz109 : szT Try.prog 109 = some 1 := by kernel_rfl
theorem T.by109 : byT Try.prog 109 = some 8 := by kernel_rfl
theorem T.ag109 : aggT Try.prog 109 = some false := by kernel_rfl
theorem T.ze109 : zeroT Try.prog 109 = some [.nilF] := by kernel_rfl
theorem T.el109 : elT Try.prog 109 = none := by kernel_rfl
theorem T.fu109 : funcT Try.prog 109 = true := by kernel_rfl
theorem T.sz110 : szT Try.prog 110 = some 4 := by kernel_rfl
theorem T.by110 : byT Try.prog 110 = some 40 := by kernel_rfl
theorem T.ag110 : aggT Try.prog 110 = some true := by kernel_rfl
theorem T.ze110 : zeroT Try.prog 110 = some [.nilP, .nilP, .nilP, .any] := by kernel_rfl
theorem T.el110 : elT Try.prog 110 = none := by kernel_rfl
theorem T.fl110_0 : fldT Try.prog 110 0 = some (0, 17) := by kernel_rfl
theorem T.fl110_1 : fldT Try.prog 110 1 = some (1, 17) := by kernel_rfl
theorem T.fl110_2 : fldT Try.prog 110 2 = some (2, 17) := by kernel_rfl
theorem T.fl110_3 : fldT Try.prog 110 3 = some (3, 9) := by kernel_rfl
theorem T.pl110 : plT Try.prog 110 = some (some [(0, 1), (1, 1), (2, 1), (3, 1)]) := by kernel_rfl
theorem T.sz111 : szT Try.prog 111 = some 4 := by kernel_rfl
theorem T.by111 : byT Try.prog 111 = some 40 := by kernel_rfl
theorem T.ag111 : aggT Try.prog 111 = some true := by kernel_rfl
theorem T.ze111 : zeroT Try.prog 111 = some [.nilP, .nilP, .nilP, .any] := by kernel_rfl
theorem T.el111 : elT Try.prog 111 = none := by kernel_rfl
theorem T.fl111_0 : fldT Try.prog 111 0 = some (0, 17) := by kernel_rfl
theorem T.fl111_1 : fldT Try.prog 111 1 = some (1, 17) := by kernel_rfl
theorem T.fl111_2 : fldT Try.prog 111 2 = some (2, 17) := by kernel_rfl
theorem T.fl111_3 : fldT Try.prog 111 3 = some (3, 9) := by kernel_rfl
theorem T.pl111 : plT Try.prog 111 = some (some [(0, 1), (1, 1), (2, 1), (3, 1)]) := by kernel_rfl
theorem T.sz112 : szT Try.prog 112 = some 0 := by kernel_rfl
theorem T.by112 : byT Try.prog 112 = some 0 := by kernel_rfl
theorem T.ag112 : aggT Try.prog 112 = some true := by kernel_rfl
theorem T.ze112 : zeroT Try.prog 112 = some [] := by kernel_rfl
theorem T.el112 : elT Try.prog 112 = none := by kernel_rfl
theorem T.ar112 : arT Try.prog 112 = some (0, 16, 1) := by kernel_rfl
theorem T.pl112 : plT Try.prog 112 = some none := by kernel_rfl
theorem T.sz113 : szT Try.prog 113 = some 0 := by kernel_rfl
theorem T.by113 : byT Try.prog 113 = some 0 := by kernel_rfl
theorem T.ag113 : aggT Try.prog 113 = some true := by kernel_rfl
theorem T.ze113 : zeroT Try.prog 113 = some [] := by kernel_rfl
theorem T.el113 : elT Try.prog 113 = none := by kernel_rfl
theorem T.pl113 : plT Try.prog 113 = some (some [(0, 0)]) := by kernel_rfl
theorem T.sz114 : szT Try.prog 114 = some 0 := by kernel_rfl
theorem T.by114 : byT Try.prog 114 = some 0 := by kernel_rfl
theorem T.ag114 : aggT Try.prog 114 = some true := by kernel_rfl
theorem T.ze114 : zeroT Try.prog 114 = some [] := by kernel_rfl
theorem T.el114 : elT Try.prog 114 = none := by kernel_rfl
theorem T.pl114 : plT Try.prog 114 = some (some [(0, 0)]) := by kernel_rfl
theorem T.sz115 : szT Try.prog 115 = some 1 := by kernel_rfl
theorem T.by115 : byT Try.prog 115 = some 8 := by kernel_rfl
theorem T.ag115 : aggT Try.prog 115 = some false := by kernel_rfl
theorem T.ze115 : zeroT Try.prog 115 = some [.nilF] := by kernel_rfl
theorem T.el115 : elT Try.prog 115 = none := by kernel_rfl
theorem T.fu115 : funcT Try.prog 115 = true := by kernel_rfl
theorem T.sz119 : szT Try.prog 119 = some 1 := by kernel_rfl
theorem T.by119 : byT Try.prog 119 = some 8 := by kernel_rfl
theorem T.ag119 : aggT Try.prog 119 = some false := by kernel_rfl
theorem T.ze119 : zeroT Try.prog 119 = some [.nilF] := by kernel_rfl
theorem T.el119 : elT Try.prog 119 = none := by kernel_rfl
theorem T.fu119 : funcT Try.prog 119 = true := by kernel_rfl
theorem T.sz120 : szT Try.prog 120 = some 1 := by kernel_rfl
theorem T.by120 : byT Try.prog 120 = some 8 := by kernel_rfl
theorem T.ag120 : aggT Try.prog 120 = some false := by kernel_rfl
theorem T.ze120 : zeroT Try.prog 120 = some [.nilP] := by kernel_rfl
theorem T.el120 : elT Try.prog 120 = none := by kernel_rfl
theorem T.sz123 : szT Try.prog 123 = some 11 := by kernel_rfl
theorem T.by123 : byT Try.prog 123 = some 48 := by kernel_rfl
theorem T.ag123 : aggT Try.prog 123 = some true := by kernel_rfl
theorem T.ze123 : zeroT Try.prog 123 = some [(.int .u64 0), (.int .u64 0), (.int .u32 0), (.int .u8 0), (.int .u8 0), (.int .u8 0), (.int .u8 0), .nilF, .nilP, (.int .i32 0), (.int .i32 0)] := by kernel_rfl
theorem T.el123 : elT Try.prog 123 = none := by kernel_rfl
theorem T.fl123_0 : fldT Try.prog 123 0 = some (0, 12) := by kernel_rfl
theorem T.fl123_1 : fldT Try.prog 123 1 = some (1, 12) := by kernel_rfl
theorem T.fl123_2 : fldT Try.prog 123 2 = some (2, 116) := by kernel_rfl
theorem T.fl123_3 : fldT Try.prog 123 3 = some (3, 117) := by kernel_rfl
theorem T.fl123_4 : fldT Try.prog 123 4 = some (4, 5) := by kernel_rfl
theorem T.fl123_5 : fldT Try.prog 123 5 = some (5, 5) := by kernel_rfl
theorem T.fl123_6 : fldT Try.prog 123 6 = some (6, 118) := by kernel_rfl
theorem T.fl123_7 : fldT Try.prog 123 7 = some (7, 119) := by kernel_rfl
theorem T.fl123_8 : fldT Try.prog 123 8 = some (8, 120) := by kernel_rfl
theorem T.fl123_9 : fldT Try.prog 123 9 = some (9, 121) := by kernel_rfl
theorem T.fl123_10 : fldT Try.prog 123 10 = some (10, 122) := by kernel_rfl
theorem T.pl123 : plT Try.prog 123 = some (some [(0, 1), (1, 1), (2, 1), (3, 1), (4, 1), (5, 1), (6, 1), (7, 1), (8, 1), (9, 1), (10, 1)]) := by kernel_rfl
theorem T.sz124 : szT Try.prog 124 = some 11 := by kernel_rfl
theorem T.by124 : byT Try.prog 124 = some 48 := by kernel_rfl
theorem T.ag124 : aggT Try.prog 124 = some true := by kernel_rfl
theorem T.ze124 : zeroT Try.prog 124 = some [(.int .u64 0), (.int .u64 0), (.int .u32 0), (.int .u8 0), (.int .u8 0), (.int .u8 0), (.int .u8 0), .nilF, .nilP, (.int .i32 0), (.int .i32 0)] := by kernel_rfl
theorem T.el124 : elT Try.prog 124 = none := by kernel_rfl
theorem T.fl124_0 : fldT Try.prog 124 0 = some (0, 12) := by kernel_rfl
theorem T.fl124_1 : fldT Try.prog 124 1 = some (1, 12) := by kernel_rfl
theorem T.fl124_2 : fldT Try.prog 124 2 = some (2, 116) := by kernel_rfl
theorem T.fl124_3 : fldT Try.prog 124 3 = some (3, 117) := by kernel_rfl
theorem T.fl124_4 : fldT Try.prog 124 4 = some (4, 5) := by kernel_rfl
theorem T.fl124_5 : fldT Try.prog 124 5 = some (5, 5) := by kernel_rfl
theorem T.fl124_6 : fldT Try.prog 124 6 = some (6, 118) := by kernel_rfl
theorem T.fl124_7 : fldT Try.prog 124 7 = some (7, 119) := by kernel_rfl
theorem T.fl124_8 : fldT Try.prog 124 8 = some (8, 120) := by kernel_rfl
theorem T.fl124_9 : fldT Try.prog 124 9 = some (9, 121) := by kernel_rfl
theorem T.fl124_10 : fldT Try.prog 124 10 = some (10, 122) := by kernel_rfl
theorem T.pl124 : plT Try.prog 124 = some (some [(0, 1), (1, 1), (2, 1), (3, 1), (4, 1), (5, 1), (6, 1), (7, 1), (8, 1), (9, 1), (10, 1)]) := by kernel_rfl
attribute [go_sem] T.sz1 T.by1 T.ag1 T.ze1 T.el1 T.fu1 T.sz2 T.by2 T.ag2 T.ze2 T.el2 T.bo2 T.sz3 T.by3 T.ag3 T.ze3 T.el3 T.bo3 T.sz4 T.by4 T.ag4 T.ze4 T.el4 T.bo4 T.sz12 T.by12 T.ag12 T.ze12 T.el12 T.bo12 T.sz15 T.by15 T.ag15 T.ze15 T.el15 T.sz16 T.by16 T.ag16 T.ze16 T.el16
attribute [go_sem] T.sz17 T.by17 T.ag17 T.ze17 T.el17 T.sz18 T.by18 T.ag18 T.ze18 T.el18 T.fl18_0 T.pl18 T.sz19 T.by19 T.ag19 T.ze19 T.el19 T.fl19_0 T.pl19 T.sz22 T.by22 T.ag22 T.ze22 T.el22 T.sz23 T.by23 T.ag23 T.ze23 T.el23 T.fl23_0 T.pl23 T.sz24 T.by24 T.ag24 T.ze24 T.el24 T.fl24_0 T.pl24 T.sz25 T.by25
attribute [go_sem] T.ag25 T.ze25 T.el25 T.fu25 T.sz26 T.by26 T.ag26 T.ze26 T.el26 T.fu26 T.sz27 T.by27 T.ag27 T.ze27 T.el27 T.fu27 T.sz28 T.by28 T.ag28 T.ze28 T.el28 T.bo28 T.sz30 T.by30 T.ag30 T.ze30 T.el30 T.fu30 T.sz31 T.by31 T.ag31 T.ze31 T.el31 T.fu31 T.sz32 T.by32 T.ag32 T.ze32 T.el32 T.fu32
attribute [go_sem] T.sz33 T.by33 T.ag33 T.ze33 T.el33 T.fu33 T.sz34 T.by34 T.ag34 T.ze34 T.el34 T.sz36 T.by36 T.ag36 T.ze36 T.el36 T.fu36 T.sz37 T.by37 T.ag37 T.ze37 T.el37 T.fu37 T.sz38 T.by38 T.ag38 T.ze38 T.el38 T.fu38 T.sz39 T.by39 T.ag39 T.ze39 T.el39 T.fl39_0 T.fl39_1 T.pl39 T.fi39 T.fn39 T.sz40
attribute [go_sem] T.by40 T.ag40 T.ze40 T.el40 T.fl40_0 T.fl40_1 T.pl40 T.fi40 T.fn40 T.sz41 T.by41 T.ag41 T.ze41 T.el41 T.fl41_0 T.fl41_1 T.fl41_2 T.fl41_3 T.fl41_4 T.pl41 T.fi41 T.fn41 T.sz42 T.by42 T.ag42 T.ze42 T.el42 T.fl42_0 T.fl42_1 T.fl42_2 T.fl42_3 T.fl42_4 T.pl42 T.fi42 T.fn42 T.sz43 T.by43 T.ag43 T.ze43 T.el43
attribute [go_sem] T.fu43 T.sz44 T.by44 T.ag44 T.ze44 T.el44 T.fu44 T.sz46 T.by46 T.ag46 T.ze46 T.el46 T.fu46 T.sz47 T.by47 T.ag47 T.ze47 T.el47 T.fu47 T.sz48 T.by48 T.ag48 T.ze48 T.el48 T.fu48 T.sz50 T.by50 T.ag50 T.ze50 T.el50 T.fu50 T.sz51 T.by51 T.ag51 T.ze51 T.el51 T.fu51 T.sz52 T.by52 T.ag52
attribute [go_sem] T.ze52 T.el52 T.fu52 T.sz53 T.by53 T.ag53 T.ze53 T.el53 T.fu53 T.sz55 T.by55 T.ag55 T.ze55 T.el55 T.fu55 T.sz56 T.by56 T.ag56 T.ze56 T.el56 T.fu56 T.sz57 T.by57 T.ag57 T.ze57 T.el57 T.fu57 T.sz58 T.by58 T.ag58 T.ze58 T.el58 T.fu58 T.sz59 T.by59 T.ag59 T.ze59 T.el59 T.fu59 T.sz60
attribute [go_sem] T.by60 T.ag60 T.ze60 T.el60 T.fu60 T.sz61 T.by61 T.ag61 T.ze61 T.el61 T.fu61 T.sz62 T.by62 T.ag62 T.ze62 T.el62 T.fu62 T.sz63 T.by63 T.ag63 T.ze63 T.el63 T.fu63 T.sz64 T.by64 T.ag64 T.ze64 T.el64 T.fl64_0 T.pl64 T.sz65 T.by65 T.ag65 T.ze65 T.el65 T.fl65_0 T.pl65 T.sz67 T.by67 T.ag67
attribute [go_sem] T.ze67 T.el67 T.fu67 T.sz68 T.by68 T.ag68 T.ze68 T.el68 T.fu68 T.sz69 T.by69 T.ag69 T.ze69 T.el69 T.fu69 T.sz71 T.by71 T.ag71 T.ze71 T.el71 T.fu71 T.sz72 T.by72 T.ag72 T.ze72 T.el72 T.fu72 T.sz74 T.by74 T.ag74 T.ze74 T.el74 T.fu74 T.sz75 T.by75 T.ag75 T.ze75 T.el75 T.sz76 T.by76
attribute [go_sem] T.ag76 T.ze76 T.el76 T.fu76 T.sz77 T.by77 T.ag77 T.ze77 T.el77 T.fu77 T.sz78 T.by78 T.ag78 T.ze78 T.el78 T.fu78 T.sz79 T.by79 T.ag79 T.ze79 T.el79 T.fu79 T.sz80 T.by80 T.ag80 T.ze80 T.el80 T.fu80 T.sz81 T.by81 T.ag81 T.ze81 T.el81 T.fu81 T.sz82 T.by82 T.ag82 T.ze82 T.el82 T.fu82
attribute [go_sem] T.sz83 T.by83 T.ag83 T.ze83 T.el83 T.fu83 T.sz84 T.by84 T.ag84 T.ze84 T.el84 T.fu84 T.sz85 T.by85 T.ag85 T.ze85 T.el85 T.fu85 T.sz86 T.by86 T.ag86 T.ze86 T.el86 T.fu86 T.sz87 T.by87 T.ag87 T.ze87 T.el87 T.fu87 T.sz88 T.by88 T.ag88 T.ze88 T.el88 T.fu88 T.sz89 T.by89 T.ag89 T.ze89
attribute [go_sem] T.el89 T.fu89 T.sz90 T.by90 T.ag90 T.ze90 T.el90 T.fu90 T.sz91 T.by91 T.ag91 T.ze91 T.el91 T.fu91 T.sz93 T.by93 T.ag93 T.ze93 T.el93 T.fu93 T.sz94 T.by94 T.ag94 T.ze94 T.el94 T.fu94 T.sz95 T.by95 T.ag95 T.ze95 T.el95 T.fu95 T.sz96 T.by96 T.ag96 T.ze96 T.el96 T.mt96 T.sz97 T.by97
attribute [go_sem] T.ag97 T.ze97 T.el97 T.fu97 T.sz98 T.by98 T.ag98 T.ze98 T.el98 T.fl98_0 T.fl98_1 T.pl98 T.fi98 T.fn98 T.sz99 T.by99 T.ag99 T.ze99 T.el99 T.fl99_0 T.fl99_1 T.pl99 T.fi99 T.fn99 T.sz100 T.by100 T.ag100 T.ze100 T.el100 T.fl100_0 T.fl100_1 T.pl100 T.fi100 T.fn100 T.sz101 T.by101 T.ag101 T.ze101 T.el101 T.fl101_0
attribute [go_sem] T.fl101_1 T.pl101 T.fi101 T.fn101 T.sz102 T.by102 T.ag102 T.ze102 T.el102 T.fu102 T.sz103 T.by103 T.ag103 T.ze103 T.el103 T.fu103 T.sz104 T.by104 T.ag104 T.ze104 T.el104 T.fu104 T.sz105 T.by105 T.ag105 T.ze105 T.el105 T.fu105 T.sz106 T.by106 T.ag106 T.ze106 T.el106 T.fu106 T.sz107 T.by107 T.ag107 T.ze107 T.el107 T.fu107
attribute [go_sem] T.sz108 T.by108 T.ag108 T.ze108 T.el108 T.bo108 T.sz109 T.by109 T.ag109 T.ze109 T.el109 T.fu109 T.sz110 T.by110 T.ag110 T.ze110 T.el110 T.fl110_0 T.fl110_1 T.fl110_2 T.fl110_3 T.pl110 T.sz111 T.by111 T.ag111 T.ze111 T.el111 T.fl111_0 T.fl111_1 T.fl111_2 T.fl111_3 T.pl111 T.sz112 T.by112 T.ag112 T.ze112 T.el112 T.ar112 T.pl112 T.sz113
attribute [go_sem] T.by113 T.ag113 T.ze113 T.el113 T.pl113 T.sz114 T.by114 T.ag114 T.ze114 T.el114 T.pl114 T.sz115 T.by115 T.ag115 T.ze115 T.el115 T.fu115 T.sz119 T.by119 T.ag119 T.ze119 T.el119 T.fu119 T.sz120 T.by120 T.ag120 T.ze120 T.el120 T.sz123 T.by123 T.ag123 T.ze123 T.el123 T.fl123_0 T.fl123_1 T.fl123_2 T.fl123_3 T.fl123_4 T.fl123_5 T.fl123_6
attribute [go_sem] T.fl123_7 T.fl123_8 T.fl123_9 T.fl123_10 T.pl123 T.sz124 T.by124 T.ag124 T.ze124 T.el124 T.fl124_0 T.fl124_1 T.fl124_2 T.fl124_3 T.fl124_4 T.fl124_5 T.fl124_6 T.fl124_7 T.fl124_8 T.fl124_9 T.fl124_10 T.pl124
end Go.Proofs.Ytjjlcjibhjmhmaa

