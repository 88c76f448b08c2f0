/- Contracts of functions of the given program, without a condition beyond those that each theorem states; they lead to the given statement. -/
import Derived.Test.YtoadkchhimojlaaGreatDoorFlC
import Derived.Test.YtoadkchhimojlaaGreatDoorProg
import Derived.Shelf.Strings.OnBuilder
import Derived.Shelf.Strconv.Itoa3
import Derived.Shelf.Strconv.AtoiAll
import Derived.Shelf.Strings.Prefix
import Derived.Shelf.Strings.Split
set_option linter.unusedSectionVars false
set_option linter.unusedSimpArgs false
set_option linter.unusedVariables false
set_option maxRecDepth 100000
open Go.Proofs.Tryz(prog)
namespace Go.Proofs.YtoadkchhimojlaaGreatDoor
open Go Go.Fl
theorem T.sz1:szT prog 1=some 1:=by kernel_rfl
theorem T.by1:byT prog 1=some 8:=by kernel_rfl
theorem T.ag1:aggT prog 1=some false:=by kernel_rfl
theorem T.ze1:zeroT prog 1=some [.nilF]:=by kernel_rfl
theorem T.el1:elT prog 1=none:=by kernel_rfl
theorem T.fu1:funcT prog 1=true:=by kernel_rfl
theorem T.ik2:ikT prog 2=some .i64:=by kernel_rfl
theorem T.sz2:szT prog 2=some 1:=by kernel_rfl
theorem T.by2:byT prog 2=some 8:=by kernel_rfl
theorem T.ag2:aggT prog 2=some false:=by kernel_rfl
theorem T.ze2:zeroT prog 2=some [(.int .i64 0)]:=by kernel_rfl
theorem T.el2:elT prog 2=none:=by kernel_rfl
theorem T.bo2:boolT prog 2=false:=by kernel_rfl
theorem T.ik3:ikT prog 3=some .i64:=by kernel_rfl
theorem T.sz3:szT prog 3=some 1:=by kernel_rfl
theorem T.by3:byT prog 3=some 8:=by kernel_rfl
theorem T.ag3:aggT prog 3=some false:=by kernel_rfl
theorem T.ze3:zeroT prog 3=some [(.int .i64 0)]:=by kernel_rfl
theorem T.el3:elT prog 3=none:=by kernel_rfl
theorem T.bo3:boolT prog 3=false:=by kernel_rfl
theorem T.sz4:szT prog 4=some 1:=by kernel_rfl
theorem T.by4:byT prog 4=some 1:=by kernel_rfl
theorem T.ag4:aggT prog 4=some false:=by kernel_rfl
theorem T.ze4:zeroT prog 4=some [.bool false]:=by kernel_rfl
theorem T.el4:elT prog 4=none:=by kernel_rfl
theorem T.bo4:boolT prog 4=true:=by kernel_rfl
theorem T.ik5:ikT prog 5=some .u8:=by kernel_rfl
theorem T.sz5:szT prog 5=some 1:=by kernel_rfl
theorem T.by5:byT prog 5=some 1:=by kernel_rfl
theorem T.ag5:aggT prog 5=some false:=by kernel_rfl
theorem T.ze5:zeroT prog 5=some [(.int .u8 0)]:=by kernel_rfl
theorem T.el5:elT prog 5=none:=by kernel_rfl
theorem T.bo5:boolT prog 5=false:=by kernel_rfl
theorem T.sz9:szT prog 9=some 1:=by kernel_rfl
theorem T.by9:byT prog 9=some 16:=by kernel_rfl
theorem T.ag9:aggT prog 9=some false:=by kernel_rfl
theorem T.ze9:zeroT prog 9=some [.lf (.str [])]:=by kernel_rfl
theorem T.el9:elT prog 9=none:=by kernel_rfl
theorem T.st9:strT prog 9=true:=by kernel_rfl
theorem T.ar9:arT prog 9=none:=by kernel_rfl
theorem T.sz22:szT prog 22=some 1:=by kernel_rfl
theorem T.by22:byT prog 22=some 24:=by kernel_rfl
theorem T.ag22:aggT prog 22=some false:=by kernel_rfl
theorem T.ze22:zeroT prog 22=some [.nilS]:=by kernel_rfl
theorem T.el22:elT prog 22=some (110,3):=by kernel_rfl
theorem T.sz23:szT prog 23=some 1:=by kernel_rfl
theorem T.by23:byT prog 23=some 24:=by kernel_rfl
theorem T.ag23:aggT prog 23=some false:=by kernel_rfl
theorem T.ze23:zeroT prog 23=some [.nilS]:=by kernel_rfl
theorem T.el23:elT prog 23=some (83,3):=by kernel_rfl
theorem T.sz24:szT prog 24=some 1:=by kernel_rfl
theorem T.by24:byT prog 24=some 24:=by kernel_rfl
theorem T.ag24:aggT prog 24=some false:=by kernel_rfl
theorem T.ze24:zeroT prog 24=some [.nilS]:=by kernel_rfl
theorem T.el24:elT prog 24=some (3,1):=by kernel_rfl
theorem T.sz26:szT prog 26=some 4:=by kernel_rfl
theorem T.by26:byT prog 26=some 80:=by kernel_rfl
theorem T.ag26:aggT prog 26=some true:=by kernel_rfl
theorem T.ze26:zeroT prog 26=some [.nilS,.nilS,.nilS,(.int .i64 0)]:=by kernel_rfl
theorem T.el26:elT prog 26=none:=by kernel_rfl
theorem T.fl26_0:fldT prog 26 0=some (0,22):=by kernel_rfl
theorem T.fl26_1:fldT prog 26 1=some (1,23):=by kernel_rfl
theorem T.fl26_2:fldT prog 26 2=some (2,24):=by kernel_rfl
theorem T.fl26_3:fldT prog 26 3=some (3,3):=by kernel_rfl
theorem T.pl26:plT prog 26=some (some [(0,1),(1,1),(2,1),(3,1)]):=by kernel_rfl
theorem T.sz27:szT prog 27=some 1:=by kernel_rfl
theorem T.by27:byT prog 27=some 24:=by kernel_rfl
theorem T.ag27:aggT prog 27=some false:=by kernel_rfl
theorem T.ze27:zeroT prog 27=some [.nilS]:=by kernel_rfl
theorem T.el27:elT prog 27=some (24,1):=by kernel_rfl
theorem T.sz29:szT prog 29=some 6:=by kernel_rfl
theorem T.by29:byT prog 29=some 128:=by kernel_rfl
theorem T.ag29:aggT prog 29=some true:=by kernel_rfl
theorem T.ze29:zeroT prog 29=some [.nilS,.nilS,.nilS,(.int .i64 0),.nilS,.nilS]:=by kernel_rfl
theorem T.el29:elT prog 29=none:=by kernel_rfl
theorem T.fl29_0:fldT prog 29 0=some (0,26):=by kernel_rfl
theorem T.fl29_1:fldT prog 29 1=some (4,24):=by kernel_rfl
theorem T.fl29_2:fldT prog 29 2=some (5,27):=by kernel_rfl
theorem T.pl29:plT prog 29=some (some [(0,4),(4,1),(5,1)]):=by kernel_rfl
theorem T.sz30:szT prog 30=some 1:=by kernel_rfl
theorem T.by30:byT prog 30=some 24:=by kernel_rfl
theorem T.ag30:aggT prog 30=some false:=by kernel_rfl
theorem T.ze30:zeroT prog 30=some [.nilS]:=by kernel_rfl
theorem T.el30:elT prog 30=some (113,3):=by kernel_rfl
theorem T.sz32:szT prog 32=some 4:=by kernel_rfl
theorem T.by32:byT prog 32=some 80:=by kernel_rfl
theorem T.ag32:aggT prog 32=some true:=by kernel_rfl
theorem T.ze32:zeroT prog 32=some [.nilS,.nilS,.nilS,(.int .i64 0)]:=by kernel_rfl
theorem T.el32:elT prog 32=none:=by kernel_rfl
theorem T.fl32_0:fldT prog 32 0=some (0,30):=by kernel_rfl
theorem T.fl32_1:fldT prog 32 1=some (1,27):=by kernel_rfl
theorem T.fl32_2:fldT prog 32 2=some (2,24):=by kernel_rfl
theorem T.fl32_3:fldT prog 32 3=some (3,3):=by kernel_rfl
theorem T.pl32:plT prog 32=some (some [(0,1),(1,1),(2,1),(3,1)]):=by kernel_rfl
theorem T.sz33:szT prog 33=some 1:=by kernel_rfl
theorem T.by33:byT prog 33=some 24:=by kernel_rfl
theorem T.ag33:aggT prog 33=some false:=by kernel_rfl
theorem T.ze33:zeroT prog 33=some [.nilS]:=by kernel_rfl
theorem T.el33:elT prog 33=some (9,1):=by kernel_rfl
theorem T.sz35:szT prog 35=some 8:=by kernel_rfl
theorem T.by35:byT prog 35=some 160:=by kernel_rfl
theorem T.ag35:aggT prog 35=some true:=by kernel_rfl
theorem T.ze35:zeroT prog 35=some [.nilS,.nilS,.nilS,(.int .i64 0),.nilS,.nilS,.nilS,(.int .i64 0)]:=by kernel_rfl
theorem T.el35:elT prog 35=none:=by kernel_rfl
theorem T.fl35_0:fldT prog 35 0=some (0,26):=by kernel_rfl
theorem T.fl35_1:fldT prog 35 1=some (4,32):=by kernel_rfl
theorem T.pl35:plT prog 35=some (some [(0,4),(4,4)]):=by kernel_rfl
theorem T.ik37:ikT prog 37=some .i64:=by kernel_rfl
theorem T.sz37:szT prog 37=some 1:=by kernel_rfl
theorem T.by37:byT prog 37=some 8:=by kernel_rfl
theorem T.ag37:aggT prog 37=some false:=by kernel_rfl
theorem T.ze37:zeroT prog 37=some [(.int .i64 0)]:=by kernel_rfl
theorem T.el37:elT prog 37=none:=by kernel_rfl
theorem T.bo37:boolT prog 37=false:=by kernel_rfl
theorem T.sz48:szT prog 48=some 1:=by kernel_rfl
theorem T.by48:byT prog 48=some 24:=by kernel_rfl
theorem T.ag48:aggT prog 48=some false:=by kernel_rfl
theorem T.ze48:zeroT prog 48=some [.nilS]:=by kernel_rfl
theorem T.el48:elT prog 48=some (148,3):=by kernel_rfl
theorem T.sz56:szT prog 56=some 5:=by kernel_rfl
theorem T.by56:byT prog 56=some 72:=by kernel_rfl
theorem T.ag56:aggT prog 56=some true:=by kernel_rfl
theorem T.ze56:zeroT prog 56=some [(.int .i64 0),(.int .i64 0),.lf (.str []),.lf (.str []),.nilS]:=by kernel_rfl
theorem T.el56:elT prog 56=none:=by kernel_rfl
theorem T.fl56_0:fldT prog 56 0=some (0,3):=by kernel_rfl
theorem T.fl56_1:fldT prog 56 1=some (1,3):=by kernel_rfl
theorem T.fl56_2:fldT prog 56 2=some (2,9):=by kernel_rfl
theorem T.fl56_3:fldT prog 56 3=some (3,9):=by kernel_rfl
theorem T.fl56_4:fldT prog 56 4=some (4,24):=by kernel_rfl
theorem T.pl56:plT prog 56=some (some [(0,1),(1,1),(2,1),(3,1),(4,1)]):=by kernel_rfl
theorem T.sz64:szT prog 64=some 1:=by kernel_rfl
theorem T.by64:byT prog 64=some 24:=by kernel_rfl
theorem T.ag64:aggT prog 64=some false:=by kernel_rfl
theorem T.ze64:zeroT prog 64=some [.nilS]:=by kernel_rfl
theorem T.el64:elT prog 64=some (72,2):=by kernel_rfl
theorem T.sz66:szT prog 66=some 9:=by kernel_rfl
theorem T.by66:byT prog 66=some 184:=by kernel_rfl
theorem T.ag66:aggT prog 66=some true:=by kernel_rfl
theorem T.ze66:zeroT prog 66=some [.nilS,.nilS,.nilS,(.int .i64 0),.nilS,.nilS,.nilS,(.int .i64 0),.nilS]:=by kernel_rfl
theorem T.el66:elT prog 66=none:=by kernel_rfl
theorem T.fl66_0:fldT prog 66 0=some (0,35):=by kernel_rfl
theorem T.fl66_1:fldT prog 66 1=some (8,64):=by kernel_rfl
theorem T.pl66:plT prog 66=some (some [(0,8),(8,1)]):=by kernel_rfl
theorem T.sz68:szT prog 68=some 1:=by kernel_rfl
theorem T.by68:byT prog 68=some 8:=by kernel_rfl
theorem T.ag68:aggT prog 68=some false:=by kernel_rfl
theorem T.ze68:zeroT prog 68=some [.nilF]:=by kernel_rfl
theorem T.el68:elT prog 68=none:=by kernel_rfl
theorem T.fu68:funcT prog 68=true:=by kernel_rfl
theorem T.sz70:szT prog 70=some 1:=by kernel_rfl
theorem T.by70:byT prog 70=some 8:=by kernel_rfl
theorem T.ag70:aggT prog 70=some false:=by kernel_rfl
theorem T.ze70:zeroT prog 70=some [.nilP]:=by kernel_rfl
theorem T.el70:elT prog 70=none:=by kernel_rfl
theorem T.pt70:ptrT prog 70=true:=by kernel_rfl
theorem T.sz72:szT prog 72=some 2:=by kernel_rfl
theorem T.by72:byT prog 72=some 16:=by kernel_rfl
theorem T.ag72:aggT prog 72=some true:=by kernel_rfl
theorem T.ze72:zeroT prog 72=some [(.int .i64 0),.nilP]:=by kernel_rfl
theorem T.el72:elT prog 72=none:=by kernel_rfl
theorem T.fl72_0:fldT prog 72 0=some (0,3):=by kernel_rfl
theorem T.fl72_1:fldT prog 72 1=some (1,70):=by kernel_rfl
theorem T.pl72:plT prog 72=some (some [(0,1),(1,1)]):=by kernel_rfl
theorem T.sz73:szT prog 73=some 1:=by kernel_rfl
theorem T.by73:byT prog 73=some 8:=by kernel_rfl
theorem T.ag73:aggT prog 73=some false:=by kernel_rfl
theorem T.ze73:zeroT prog 73=some [.nilF]:=by kernel_rfl
theorem T.el73:elT prog 73=none:=by kernel_rfl
theorem T.fu73:funcT prog 73=true:=by kernel_rfl
theorem T.sz75:szT prog 75=some 2:=by kernel_rfl
theorem T.by75:byT prog 75=some 24:=by kernel_rfl
theorem T.ag75:aggT prog 75=some true:=by kernel_rfl
theorem T.ze75:zeroT prog 75=some [.lf (.str []),.nilF]:=by kernel_rfl
theorem T.el75:elT prog 75=none:=by kernel_rfl
theorem T.fl75_0:fldT prog 75 0=some (0,9):=by kernel_rfl
theorem T.fl75_1:fldT prog 75 1=some (1,73):=by kernel_rfl
theorem T.pl75:plT prog 75=some (some [(0,1),(1,1)]):=by kernel_rfl
theorem T.sz83:szT prog 83=some 3:=by kernel_rfl
theorem T.by83:byT prog 83=some 24:=by kernel_rfl
theorem T.ag83:aggT prog 83=some true:=by kernel_rfl
theorem T.ze83:zeroT prog 83=some [(.int .i64 0),(.int .i64 0),(.int .i64 0)]:=by kernel_rfl
theorem T.el83:elT prog 83=none:=by kernel_rfl
theorem T.fl83_0:fldT prog 83 0=some (0,3):=by kernel_rfl
theorem T.fl83_1:fldT prog 83 1=some (1,3):=by kernel_rfl
theorem T.fl83_2:fldT prog 83 2=some (2,3):=by kernel_rfl
theorem T.pl83:plT prog 83=some (some [(0,1),(1,1),(2,1)]):=by kernel_rfl
theorem T.fi83:flatI prog 83=true:=by kernel_rfl
theorem T.fn83:flatN prog 83=3:=by kernel_rfl
theorem T.sz86:szT prog 86=some 6:=by kernel_rfl
theorem T.by86:byT prog 86=some 128:=by kernel_rfl
theorem T.ag86:aggT prog 86=some true:=by kernel_rfl
theorem T.ze86:zeroT prog 86=some [.nilS,.nilS,.nilS,(.int .i64 0),.nilS,.nilS]:=by kernel_rfl
theorem T.el86:elT prog 86=none:=by kernel_rfl
theorem T.fl86_0:fldT prog 86 0=some (0,29):=by kernel_rfl
theorem T.pl86:plT prog 86=some (some [(0,6)]):=by kernel_rfl
theorem T.sz89:szT prog 89=some 3:=by kernel_rfl
theorem T.by89:byT prog 89=some 24:=by kernel_rfl
theorem T.ag89:aggT prog 89=some true:=by kernel_rfl
theorem T.ze89:zeroT prog 89=some [(.int .i64 0),(.int .i64 0),(.int .i64 0)]:=by kernel_rfl
theorem T.el89:elT prog 89=none:=by kernel_rfl
theorem T.ar89:arT prog 89=some (3,3,1):=by kernel_rfl
theorem T.pl89:plT prog 89=some none:=by kernel_rfl
theorem T.sz91:szT prog 91=some 12:=by kernel_rfl
theorem T.by91:byT prog 91=some 96:=by kernel_rfl
theorem T.ag91:aggT prog 91=some true:=by kernel_rfl
theorem T.ze91:zeroT prog 91=some [(.int .i64 0),(.int .i64 0),(.int .i64 0),(.int .i64 0),(.int .i64 0),(.int .i64 0),(.int .i64 0),(.int .i64 0),(.int .i64 0),(.int .i64 0),(.int .i64 0),(.int .i64 0)]:=by kernel_rfl
theorem T.el91:elT prog 91=none:=by kernel_rfl
theorem T.ar91:arT prog 91=some (4,89,3):=by kernel_rfl
theorem T.pl91:plT prog 91=some none:=by kernel_rfl
theorem T.sz94:szT prog 94=some 1:=by kernel_rfl
theorem T.by94:byT prog 94=some 24:=by kernel_rfl
theorem T.ag94:aggT prog 94=some false:=by kernel_rfl
theorem T.ze94:zeroT prog 94=some [.nilS]:=by kernel_rfl
theorem T.el94:elT prog 94=some (101,1):=by kernel_rfl
theorem T.sz101:szT prog 101=some 1:=by kernel_rfl
theorem T.by101:byT prog 101=some 24:=by kernel_rfl
theorem T.ag101:aggT prog 101=some false:=by kernel_rfl
theorem T.ze101:zeroT prog 101=some [.nilS]:=by kernel_rfl
theorem T.el101:elT prog 101=some (91,12):=by kernel_rfl
theorem T.sz110:szT prog 110=some 3:=by kernel_rfl
theorem T.by110:byT prog 110=some 24:=by kernel_rfl
theorem T.ag110:aggT prog 110=some true:=by kernel_rfl
theorem T.ze110:zeroT prog 110=some [(.int .i64 0),(.int .i64 0),(.int .i64 0)]:=by kernel_rfl
theorem T.el110:elT prog 110=none:=by kernel_rfl
theorem T.fl110_0:fldT prog 110 0=some (0,3):=by kernel_rfl
theorem T.fl110_1:fldT prog 110 1=some (1,3):=by kernel_rfl
theorem T.fl110_2:fldT prog 110 2=some (2,3):=by kernel_rfl
theorem T.pl110:plT prog 110=some (some [(0,1),(1,1),(2,1)]):=by kernel_rfl
theorem T.fi110:flatI prog 110=true:=by kernel_rfl
theorem T.fn110:flatN prog 110=3:=by kernel_rfl
theorem T.sz113:szT prog 113=some 3:=by kernel_rfl
theorem T.by113:byT prog 113=some 24:=by kernel_rfl
theorem T.ag113:aggT prog 113=some true:=by kernel_rfl
theorem T.ze113:zeroT prog 113=some [(.int .i64 0),(.int .i64 0),(.int .i64 0)]:=by kernel_rfl
theorem T.el113:elT prog 113=none:=by kernel_rfl
theorem T.fl113_0:fldT prog 113 0=some (0,3):=by kernel_rfl
theorem T.fl113_1:fldT prog 113 1=some (1,3):=by kernel_rfl
theorem T.fl113_2:fldT prog 113 2=some (2,3):=by kernel_rfl
theorem T.pl113:plT prog 113=some (some [(0,1),(1,1),(2,1)]):=by kernel_rfl
theorem T.fi113:flatI prog 113=true:=by kernel_rfl
theorem T.fn113:flatN prog 113=3:=by kernel_rfl
theorem T.sz120:szT prog 120=some 1:=by kernel_rfl
theorem T.by120:byT prog 120=some 8:=by kernel_rfl
theorem T.ag120:aggT prog 120=some false:=by kernel_rfl
theorem T.ze120:zeroT prog 120=some [.nilP]:=by kernel_rfl
theorem T.el120:elT prog 120=none:=by kernel_rfl
theorem T.pt120:ptrT prog 120=true:=by kernel_rfl
theorem T.sz127:szT prog 127=some 1:=by kernel_rfl
theorem T.by127:byT prog 127=some 8:=by kernel_rfl
theorem T.ag127:aggT prog 127=some false:=by kernel_rfl
theorem T.ze127:zeroT prog 127=some [.nilF]:=by kernel_rfl
theorem T.el127:elT prog 127=none:=by kernel_rfl
theorem T.fu127:funcT prog 127=true:=by kernel_rfl
theorem T.sz128:szT prog 128=some 1:=by kernel_rfl
theorem T.by128:byT prog 128=some 8:=by kernel_rfl
theorem T.ag128:aggT prog 128=some false:=by kernel_rfl
theorem T.ze128:zeroT prog 128=some [.nilF]:=by kernel_rfl
theorem T.el128:elT prog 128=none:=by kernel_rfl
theorem T.mm128:mthT prog 128 "flong/overseer.tell" =some 62:=by kernel_rfl
theorem T.co128:conT prog 128=true:=by kernel_rfl
theorem T.fu128:funcT prog 128=true:=by kernel_rfl
theorem T.sz134:szT prog 134=some 1:=by kernel_rfl
theorem T.by134:byT prog 134=some 8:=by kernel_rfl
theorem T.ag134:aggT prog 134=some false:=by kernel_rfl
theorem T.ze134:zeroT prog 134=some [.nilP]:=by kernel_rfl
theorem T.el134:elT prog 134=none:=by kernel_rfl
theorem T.pt134:ptrT prog 134=true:=by kernel_rfl
theorem T.sz137:szT prog 137=some 1:=by kernel_rfl
theorem T.by137:byT prog 137=some 8:=by kernel_rfl
theorem T.ag137:aggT prog 137=some false:=by kernel_rfl
theorem T.ze137:zeroT prog 137=some [.nilF]:=by kernel_rfl
theorem T.el137:elT prog 137=none:=by kernel_rfl
theorem T.fu137:funcT prog 137=true:=by kernel_rfl
theorem T.sz148:szT prog 148=some 3:=by kernel_rfl
theorem T.by148:byT prog 148=some 24:=by kernel_rfl
theorem T.ag148:aggT prog 148=some true:=by kernel_rfl
theorem T.ze148:zeroT prog 148=some [(.int .i64 0),(.int .i64 0),(.int .i64 0)]:=by kernel_rfl
theorem T.el148:elT prog 148=none:=by kernel_rfl
theorem T.fl148_0:fldT prog 148 0=some (0,3):=by kernel_rfl
theorem T.fl148_1:fldT prog 148 1=some (1,3):=by kernel_rfl
theorem T.fl148_2:fldT prog 148 2=some (2,3):=by kernel_rfl
theorem T.pl148:plT prog 148=some (some [(0,1),(1,1),(2,1)]):=by kernel_rfl
theorem T.fi148:flatI prog 148=true:=by kernel_rfl
theorem T.fn148:flatN prog 148=3:=by kernel_rfl
theorem T.sz149:szT prog 149=some 1:=by kernel_rfl
theorem T.by149:byT prog 149=some 8:=by kernel_rfl
theorem T.ag149:aggT prog 149=some false:=by kernel_rfl
theorem T.ze149:zeroT prog 149=some [.nilF]:=by kernel_rfl
theorem T.el149:elT prog 149=none:=by kernel_rfl
theorem T.fu149:funcT prog 149=true:=by kernel_rfl
theorem T.sz151:szT prog 151=some 1:=by kernel_rfl
theorem T.by151:byT prog 151=some 8:=by kernel_rfl
theorem T.ag151:aggT prog 151=some false:=by kernel_rfl
theorem T.ze151:zeroT prog 151=some [.nilF]:=by kernel_rfl
theorem T.el151:elT prog 151=none:=by kernel_rfl
theorem T.fu151:funcT prog 151=true:=by kernel_rfl
theorem T.sz152:szT prog 152=some 1:=by kernel_rfl
theorem T.by152:byT prog 152=some 8:=by kernel_rfl
theorem T.ag152:aggT prog 152=some false:=by kernel_rfl
theorem T.ze152:zeroT prog 152=some [.val (.map none)]:=by kernel_rfl
theorem T.el152:elT prog 152=none:=by kernel_rfl
theorem T.sz153:szT prog 153=some 1:=by kernel_rfl
theorem T.by153:byT prog 153=some 8:=by kernel_rfl
theorem T.ag153:aggT prog 153=some false:=by kernel_rfl
theorem T.ze153:zeroT prog 153=some [.nilF]:=by kernel_rfl
theorem T.el153:elT prog 153=none:=by kernel_rfl
theorem T.fu153:funcT prog 153=true:=by kernel_rfl
theorem T.sz162:szT prog 162=some 1:=by kernel_rfl
theorem T.by162:byT prog 162=some 8:=by kernel_rfl
theorem T.ag162:aggT prog 162=some false:=by kernel_rfl
theorem T.ze162:zeroT prog 162=some [.nilF]:=by kernel_rfl
theorem T.el162:elT prog 162=none:=by kernel_rfl
theorem T.fu162:funcT prog 162=true:=by kernel_rfl
theorem T.sz165:szT prog 165=some 1:=by kernel_rfl
theorem T.by165:byT prog 165=some 8:=by kernel_rfl
theorem T.ag165:aggT prog 165=some false:=by kernel_rfl
theorem T.ze165:zeroT prog 165=some [.nilF]:=by kernel_rfl
theorem T.el165:elT prog 165=none:=by kernel_rfl
theorem T.fu165:funcT prog 165=true:=by kernel_rfl
theorem T.sz167:szT prog 167=some 1:=by kernel_rfl
theorem T.by167:byT prog 167=some 8:=by kernel_rfl
theorem T.ag167:aggT prog 167=some false:=by kernel_rfl
theorem T.ze167:zeroT prog 167=some [.nilF]:=by kernel_rfl
theorem T.el167:elT prog 167=none:=by kernel_rfl
theorem T.fu167:funcT prog 167=true:=by kernel_rfl
theorem T.sz168:szT prog 168=some 1:=by kernel_rfl
theorem T.by168:byT prog 168=some 8:=by kernel_rfl
theorem T.ag168:aggT prog 168=some false:=by kernel_rfl
theorem T.ze168:zeroT prog 168=some [.nilF]:=by kernel_rfl
theorem T.el168:elT prog 168=none:=by kernel_rfl
theorem T.fu168:funcT prog 168=true:=by kernel_rfl
theorem T.sz169:szT prog 169=some 1:=by kernel_rfl
theorem T.by169:byT prog 169=some 8:=by kernel_rfl
theorem T.ag169:aggT prog 169=some false:=by kernel_rfl
theorem T.ze169:zeroT prog 169=some [.nilF]:=by kernel_rfl
theorem T.el169:elT prog 169=none:=by kernel_rfl
theorem T.fu169:funcT prog 169=true:=by kernel_rfl
theorem T.sz174:szT prog 174=some 1:=by kernel_rfl
theorem T.by174:byT prog 174=some 8:=by kernel_rfl
theorem T.ag174:aggT prog 174=some false:=by kernel_rfl
theorem T.ze174:zeroT prog 174=some [.nilP]:=by kernel_rfl
theorem T.el174:elT prog 174=none:=by kernel_rfl
theorem T.pt174:ptrT prog 174=true:=by kernel_rfl
theorem T.sz176:szT prog 176=some 1:=by kernel_rfl
theorem T.by176:byT prog 176=some 8:=by kernel_rfl
theorem T.ag176:aggT prog 176=some false:=by kernel_rfl
theorem T.ze176:zeroT prog 176=some [.nilP]:=by kernel_rfl
theorem T.el176:elT prog 176=none:=by kernel_rfl
theorem T.pt176:ptrT prog 176=true:=by kernel_rfl
theorem T.sz177:szT prog 177=some 1:=by kernel_rfl
theorem T.by177:byT prog 177=some 8:=by kernel_rfl
theorem T.ag177:aggT prog 177=some false:=by kernel_rfl
theorem T.ze177:zeroT prog 177=some [.nilP]:=by kernel_rfl
theorem T.el177:elT prog 177=none:=by kernel_rfl
theorem T.pt177:ptrT prog 177=true:=by kernel_rfl
theorem T.sz181:szT prog 181=some 1:=by kernel_rfl
theorem T.by181:byT prog 181=some 8:=by kernel_rfl
theorem T.ag181:aggT prog 181=some false:=by kernel_rfl
theorem T.ze181:zeroT prog 181=some [.nilP]:=by kernel_rfl
theorem T.el181:elT prog 181=none:=by kernel_rfl
theorem T.pt181:ptrT prog 181=true:=by kernel_rfl
theorem T.sz182:szT prog 182=some 1:=by kernel_rfl
theorem T.by182:byT prog 182=some 8:=by kernel_rfl
theorem T.ag182:aggT prog 182=some false:=by kernel_rfl
theorem T.ze182:zeroT prog 182=some [.nilP]:=by kernel_rfl
theorem T.el182:elT prog 182=none:=by kernel_rfl
theorem T.pt182:ptrT prog 182=true:=by kernel_rfl
theorem T.sz186:szT prog 186=some 1:=by kernel_rfl
theorem T.by186:byT prog 186=some 8:=by kernel_rfl
theorem T.ag186:aggT prog 186=some false:=by kernel_rfl
theorem T.ze186:zeroT prog 186=some [.nilP]:=by kernel_rfl
theorem T.el186:elT prog 186=none:=by kernel_rfl
theorem T.pt186:ptrT prog 186=true:=by kernel_rfl
theorem T.sz187:szT prog 187=some 1:=by kernel_rfl
theorem T.by187:byT prog 187=some 8:=by kernel_rfl
theorem T.ag187:aggT prog 187=some false:=by kernel_rfl
theorem T.ze187:zeroT prog 187=some [.nilP]:=by kernel_rfl
theorem T.el187:elT prog 187=none:=by kernel_rfl
theorem T.pt187:ptrT prog 187=true:=by kernel_rfl
theorem T.sz190:szT prog 190=some 1:=by kernel_rfl
theorem T.by190:byT prog 190=some 8:=by kernel_rfl
theorem T.ag190:aggT prog 190=some false:=by kernel_rfl
theorem T.ze190:zeroT prog 190=some [.nilP]:=by kernel_rfl
theorem T.el190:elT prog 190=none:=by kernel_rfl
theorem T.pt190:ptrT prog 190=true:=by kernel_rfl
theorem T.sz191:szT prog 191=some 2:=by kernel_rfl
theorem T.by191:byT prog 191=some 32:=by kernel_rfl
theorem T.ag191:aggT prog 191=some true:=by kernel_rfl
theorem T.ze191:zeroT prog 191=some [.lf (.str []),.lf (.str [])]:=by kernel_rfl
theorem T.el191:elT prog 191=none:=by kernel_rfl
theorem T.ar191:arT prog 191=some (2,9,1):=by kernel_rfl
theorem T.pl191:plT prog 191=some none:=by kernel_rfl
theorem T.sz193:szT prog 193=some 1:=by kernel_rfl
theorem T.by193:byT prog 193=some 16:=by kernel_rfl
theorem T.ag193:aggT prog 193=some false:=by kernel_rfl
theorem T.ze193:zeroT prog 193=some [.lf .nilI]:=by kernel_rfl
theorem T.el193:elT prog 193=none:=by kernel_rfl
theorem T.if193:ifaT prog 193=true:=by kernel_rfl
theorem T.ik196:ikT prog 196=some .i64:=by kernel_rfl
theorem T.sz196:szT prog 196=some 1:=by kernel_rfl
theorem T.by196:byT prog 196=some 8:=by kernel_rfl
theorem T.ag196:aggT prog 196=some false:=by kernel_rfl
theorem T.ze196:zeroT prog 196=some [(.int .i64 0)]:=by kernel_rfl
theorem T.el196:elT prog 196=none:=by kernel_rfl
theorem T.mm196:mthT prog 196 "flong/overseer.tell" =some 249:=by kernel_rfl
theorem T.co196:conT prog 196=true:=by kernel_rfl
theorem T.bo196:boolT prog 196=false:=by kernel_rfl
theorem T.sz206:szT prog 206=some 2:=by kernel_rfl
theorem T.by206:byT prog 206=some 16:=by kernel_rfl
theorem T.ag206:aggT prog 206=some true:=by kernel_rfl
theorem T.ze206:zeroT prog 206=some [(.int .i64 0),(.int .i64 0)]:=by kernel_rfl
theorem T.el206:elT prog 206=none:=by kernel_rfl
theorem T.fl206_0:fldT prog 206 0=some (0,3):=by kernel_rfl
theorem T.fl206_1:fldT prog 206 1=some (1,3):=by kernel_rfl
theorem T.pl206:plT prog 206=some (some [(0,1),(1,1)]):=by kernel_rfl
theorem T.fi206:flatI prog 206=true:=by kernel_rfl
theorem T.fn206:flatN prog 206=2:=by kernel_rfl
theorem T.sz209:szT prog 209=some 1:=by kernel_rfl
theorem T.by209:byT prog 209=some 24:=by kernel_rfl
theorem T.ag209:aggT prog 209=some false:=by kernel_rfl
theorem T.ze209:zeroT prog 209=some [.nilS]:=by kernel_rfl
theorem T.el209:elT prog 209=some (3,1):=by kernel_rfl
theorem T.mm209:mthT prog 209 "flong/overseer.tell" =some 250:=by kernel_rfl
theorem T.co209:conT prog 209=true:=by kernel_rfl
theorem T.sz212:szT prog 212=some 1:=by kernel_rfl
theorem T.by212:byT prog 212=some 16:=by kernel_rfl
theorem T.ag212:aggT prog 212=some false:=by kernel_rfl
theorem T.ze212:zeroT prog 212=some [.lf .nilI]:=by kernel_rfl
theorem T.el212:elT prog 212=none:=by kernel_rfl
theorem T.if212:ifaT prog 212=true:=by kernel_rfl
theorem T.sz217:szT prog 217=some 1:=by kernel_rfl
theorem T.by217:byT prog 217=some 8:=by kernel_rfl
theorem T.ag217:aggT prog 217=some false:=by kernel_rfl
theorem T.ze217:zeroT prog 217=some [.nilF]:=by kernel_rfl
theorem T.el217:elT prog 217=none:=by kernel_rfl
theorem T.fu217:funcT prog 217=true:=by kernel_rfl
theorem T.ik223:ikT prog 223=some .u64:=by kernel_rfl
theorem T.sz223:szT prog 223=some 1:=by kernel_rfl
theorem T.by223:byT prog 223=some 8:=by kernel_rfl
theorem T.ag223:aggT prog 223=some false:=by kernel_rfl
theorem T.ze223:zeroT prog 223=some [(.int .u64 0)]:=by kernel_rfl
theorem T.el223:elT prog 223=none:=by kernel_rfl
theorem T.bo223:boolT prog 223=false:=by kernel_rfl
theorem T.ik224:ikT prog 224=some .u64:=by kernel_rfl
theorem T.sz224:szT prog 224=some 1:=by kernel_rfl
theorem T.by224:byT prog 224=some 8:=by kernel_rfl
theorem T.ag224:aggT prog 224=some false:=by kernel_rfl
theorem T.ze224:zeroT prog 224=some [(.int .u64 0)]:=by kernel_rfl
theorem T.el224:elT prog 224=none:=by kernel_rfl
theorem T.bo224:boolT prog 224=false:=by kernel_rfl
theorem T.sz227:szT prog 227=some 4:=by kernel_rfl
theorem T.by227:byT prog 227=some 32:=by kernel_rfl
theorem T.ag227:aggT prog 227=some true:=by kernel_rfl
theorem T.ze227:zeroT prog 227=some [(.int .i64 0),(.int .i64 0),(.int .i64 0),(.int .i64 0)]:=by kernel_rfl
theorem T.el227:elT prog 227=none:=by kernel_rfl
theorem T.ar227:arT prog 227=some (4,3,1):=by kernel_rfl
theorem T.pl227:plT prog 227=some none:=by kernel_rfl
theorem T.sz230:szT prog 230=some 5:=by kernel_rfl
theorem T.by230:byT prog 230=some 40:=by kernel_rfl
theorem T.ag230:aggT prog 230=some true:=by kernel_rfl
theorem T.ze230:zeroT prog 230=some [(.int .i64 0),(.int .i64 0),(.int .i64 0),(.int .i64 0),(.int .i64 0)]:=by kernel_rfl
theorem T.el230:elT prog 230=none:=by kernel_rfl
theorem T.ar230:arT prog 230=some (5,3,1):=by kernel_rfl
theorem T.pl230:plT prog 230=some none:=by kernel_rfl
theorem T.sz248:szT prog 248=some 1:=by kernel_rfl
theorem T.by248:byT prog 248=some 8:=by kernel_rfl
theorem T.ag248:aggT prog 248=some false:=by kernel_rfl
theorem T.ze248:zeroT prog 248=some [.nilF]:=by kernel_rfl
theorem T.el248:elT prog 248=none:=by kernel_rfl
theorem T.fu248:funcT prog 248=true:=by kernel_rfl
theorem T.sz250:szT prog 250=some 1:=by kernel_rfl
theorem T.by250:byT prog 250=some 8:=by kernel_rfl
theorem T.ag250:aggT prog 250=some false:=by kernel_rfl
theorem T.ze250:zeroT prog 250=some [.nilF]:=by kernel_rfl
theorem T.el250:elT prog 250=none:=by kernel_rfl
theorem T.fu250:funcT prog 250=true:=by kernel_rfl
theorem T.sz252:szT prog 252=some 1:=by kernel_rfl
theorem T.by252:byT prog 252=some 8:=by kernel_rfl
theorem T.ag252:aggT prog 252=some false:=by kernel_rfl
theorem T.ze252:zeroT prog 252=some [.nilP]:=by kernel_rfl
theorem T.el252:elT prog 252=none:=by kernel_rfl
theorem T.pt252:ptrT prog 252=true:=by kernel_rfl
theorem T.sz256:szT prog 256=some 1:=by kernel_rfl
theorem T.by256:byT prog 256=some 8:=by kernel_rfl
theorem T.ag256:aggT prog 256=some false:=by kernel_rfl
theorem T.ze256:zeroT prog 256=some [.nilF]:=by kernel_rfl
theorem T.el256:elT prog 256=none:=by kernel_rfl
theorem T.fu256:funcT prog 256=true:=by kernel_rfl
theorem T.sz258:szT prog 258=some 1:=by kernel_rfl
theorem T.by258:byT prog 258=some 24:=by kernel_rfl
theorem T.ag258:aggT prog 258=some false:=by kernel_rfl
theorem T.ze258:zeroT prog 258=some [.nilS]:=by kernel_rfl
theorem T.el258:elT prog 258=some (259,5):=by kernel_rfl
theorem T.sz259:szT prog 259=some 5:=by kernel_rfl
theorem T.by259:byT prog 259=some 40:=by kernel_rfl
theorem T.ag259:aggT prog 259=some true:=by kernel_rfl
theorem T.ze259:zeroT prog 259=some [(.int .i64 0),(.int .i64 0),(.int .i64 0),(.int .i64 0),(.int .i64 0)]:=by kernel_rfl
theorem T.el259:elT prog 259=none:=by kernel_rfl
theorem T.ar259:arT prog 259=some (5,3,1):=by kernel_rfl
theorem T.pl259:plT prog 259=some none:=by kernel_rfl
theorem T.sz261:szT prog 261=some 10:=by kernel_rfl
theorem T.by261:byT prog 261=some 144:=by kernel_rfl
theorem T.ag261:aggT prog 261=some true:=by kernel_rfl
theorem T.ze261:zeroT prog 261=some [.nilS,.nilS,.nilS,(.int .i64 0),.nilS,(.int .i64 0),(.int .i64 0),(.int .i64 0),(.int .i64 0),(.int .i64 0)]:=by kernel_rfl
theorem T.el261:elT prog 261=none:=by kernel_rfl
theorem T.fl261_0:fldT prog 261 0=some (0,32):=by kernel_rfl
theorem T.fl261_1:fldT prog 261 1=some (4,258):=by kernel_rfl
theorem T.fl261_2:fldT prog 261 2=some (5,259):=by kernel_rfl
theorem T.pl261:plT prog 261=some (some [(0,4),(4,1),(5,5)]):=by kernel_rfl
theorem T.sz271:szT prog 271=some 1:=by kernel_rfl
theorem T.by271:byT prog 271=some 8:=by kernel_rfl
theorem T.ag271:aggT prog 271=some false:=by kernel_rfl
theorem T.ze271:zeroT prog 271=some [.nilF]:=by kernel_rfl
theorem T.el271:elT prog 271=none:=by kernel_rfl
theorem T.fu271:funcT prog 271=true:=by kernel_rfl
theorem T.sz272:szT prog 272=some 1:=by kernel_rfl
theorem T.by272:byT prog 272=some 8:=by kernel_rfl
theorem T.ag272:aggT prog 272=some false:=by kernel_rfl
theorem T.ze272:zeroT prog 272=some [.nilF]:=by kernel_rfl
theorem T.el272:elT prog 272=none:=by kernel_rfl
theorem T.fu272:funcT prog 272=true:=by kernel_rfl
theorem T.ik285:ikT prog 285=some .u64:=by kernel_rfl
theorem T.sz285:szT prog 285=some 1:=by kernel_rfl
theorem T.by285:byT prog 285=some 8:=by kernel_rfl
theorem T.ag285:aggT prog 285=some false:=by kernel_rfl
theorem T.ze285:zeroT prog 285=some [(.int .u64 0)]:=by kernel_rfl
theorem T.el285:elT prog 285=none:=by kernel_rfl
theorem T.bo285:boolT prog 285=false:=by kernel_rfl
theorem T.ai91:arrI prog 91=true:=by kernel_rfl
theorem T.an91:arrN prog 91=12:=by kernel_rfl
theorem T.kl152:keyL prog 152=some 12:=by kernel_rfl
theorem T.mt152:mapTy prog 152=none:=by kernel_rfl
attribute [go_sem] T.sz1 T.by1 T.ag1 T.ze1 T.el1 T.fu1 T.ik2 T.sz2 T.by2 T.ag2 T.ze2 T.el2 T.bo2 T.ik3 T.sz3 T.by3 T.ag3 T.ze3 T.el3 T.bo3 T.sz4 T.by4 T.ag4 T.ze4 T.el4 T.bo4 T.ik5 T.sz5 T.by5 T.ag5 T.ze5 T.el5 T.bo5
attribute [go_sem] T.sz9 T.by9 T.ag9 T.ze9 T.el9 T.st9 T.ar9
attribute [go_sem] T.sz22 T.by22 T.ag22 T.ze22 T.el22 T.sz23 T.by23 T.ag23 T.ze23 T.el23 T.sz24 T.by24 T.ag24 T.ze24
attribute [go_sem] T.el24 T.sz26 T.by26 T.ag26 T.ze26 T.el26 T.fl26_0 T.fl26_1 T.fl26_2 T.fl26_3 T.pl26 T.sz27 T.by27 T.ag27 T.ze27 T.el27 T.sz29 T.by29 T.ag29 T.ze29 T.el29
attribute [go_sem] T.fl29_0 T.fl29_1 T.fl29_2 T.pl29 T.sz30 T.by30 T.ag30 T.ze30 T.el30 T.sz32 T.by32 T.ag32 T.ze32 T.el32 T.fl32_0 T.fl32_1 T.fl32_2 T.fl32_3 T.pl32 T.sz33 T.by33 T.ag33 T.ze33 T.el33
attribute [go_sem] T.sz35 T.by35 T.ag35 T.ze35 T.el35 T.fl35_0 T.fl35_1 T.pl35 T.ik37 T.sz37 T.by37 T.ag37 T.ze37 T.el37 T.bo37
attribute [go_sem] T.sz48 T.by48 T.ag48 T.ze48 T.el48
attribute [go_sem] T.sz56 T.by56 T.ag56 T.ze56 T.el56 T.fl56_0 T.fl56_1 T.fl56_2 T.fl56_3
attribute [go_sem] T.fl56_4 T.pl56 T.sz64 T.by64
attribute [go_sem] T.ag64 T.ze64 T.el64 T.sz66 T.by66 T.ag66 T.ze66 T.el66 T.fl66_0 T.fl66_1 T.pl66 T.sz68 T.by68 T.ag68 T.ze68 T.el68 T.fu68 T.sz70 T.by70 T.ag70
attribute [go_sem] T.ze70 T.el70 T.pt70 T.sz72 T.by72 T.ag72 T.ze72 T.el72 T.fl72_0 T.fl72_1 T.pl72 T.sz73 T.by73 T.ag73 T.ze73 T.el73 T.fu73 T.sz75 T.by75 T.ag75 T.ze75 T.el75 T.fl75_0 T.fl75_1
attribute [go_sem] T.pl75
attribute [go_sem] T.sz83 T.by83 T.ag83 T.ze83 T.el83 T.fl83_0 T.fl83_1 T.fl83_2 T.pl83 T.fi83 T.fn83 T.sz86 T.by86 T.ag86 T.ze86 T.el86 T.fl86_0 T.pl86
attribute [go_sem] T.sz89 T.by89 T.ag89 T.ze89 T.el89 T.ar89 T.pl89 T.sz91 T.by91 T.ag91 T.ze91 T.el91 T.ar91 T.pl91 T.sz94 T.by94 T.ag94 T.ze94 T.el94
attribute [go_sem] T.sz101 T.by101 T.ag101 T.ze101 T.el101
attribute [go_sem] T.sz110 T.by110 T.ag110 T.ze110 T.el110 T.fl110_0 T.fl110_1 T.fl110_2 T.pl110 T.fi110 T.fn110 T.sz113 T.by113 T.ag113 T.ze113 T.el113 T.fl113_0 T.fl113_1
attribute [go_sem] T.fl113_2 T.pl113 T.fi113 T.fn113 T.sz120 T.by120 T.ag120 T.ze120 T.el120 T.pt120
attribute [go_sem] T.sz127 T.by127 T.ag127 T.ze127 T.el127 T.fu127 T.sz128 T.by128 T.ag128 T.ze128 T.el128 T.mm128 T.co128 T.fu128
attribute [go_sem] T.sz134 T.by134 T.ag134 T.ze134 T.el134 T.pt134 T.sz137 T.by137 T.ag137 T.ze137 T.el137 T.fu137
attribute [go_sem] T.sz148 T.by148 T.ag148 T.ze148 T.el148 T.fl148_0 T.fl148_1 T.fl148_2 T.pl148 T.fi148 T.fn148 T.sz149 T.by149 T.ag149 T.ze149 T.el149 T.fu149
attribute [go_sem] T.sz151 T.by151 T.ag151 T.ze151 T.el151 T.fu151 T.sz152 T.by152 T.ag152 T.ze152 T.el152 T.sz153 T.by153 T.ag153 T.ze153 T.el153 T.fu153
attribute [go_sem] T.sz162 T.by162 T.ag162 T.ze162 T.el162 T.fu162 T.sz165
attribute [go_sem] T.by165 T.ag165 T.ze165 T.el165 T.fu165 T.sz167 T.by167 T.ag167 T.ze167 T.el167 T.fu167 T.sz168 T.by168 T.ag168 T.ze168 T.el168 T.fu168 T.sz169 T.by169 T.ag169 T.ze169 T.el169 T.fu169
attribute [go_sem] T.sz174 T.by174 T.ag174 T.ze174 T.el174 T.pt174 T.sz176 T.by176 T.ag176 T.ze176 T.el176 T.pt176 T.sz177 T.by177 T.ag177 T.ze177 T.el177 T.pt177
attribute [go_sem] T.sz181 T.by181 T.ag181 T.ze181 T.el181 T.pt181 T.sz182 T.by182 T.ag182 T.ze182 T.el182 T.pt182 T.sz186 T.by186 T.ag186 T.ze186 T.el186 T.pt186 T.sz187
attribute [go_sem] T.by187 T.ag187 T.ze187 T.el187 T.pt187 T.sz190 T.by190 T.ag190 T.ze190 T.el190 T.pt190 T.sz191 T.by191 T.ag191 T.ze191 T.el191 T.ar191 T.pl191 T.sz193 T.by193 T.ag193 T.ze193 T.el193 T.if193
attribute [go_sem] T.ik196 T.sz196 T.by196 T.ag196 T.ze196 T.el196 T.mm196 T.co196 T.bo196
attribute [go_sem] T.sz206 T.by206 T.ag206 T.ze206 T.el206 T.fl206_0 T.fl206_1 T.pl206 T.fi206 T.fn206 T.sz209
attribute [go_sem] T.by209 T.ag209 T.ze209 T.el209 T.mm209 T.co209 T.sz212 T.by212 T.ag212 T.ze212 T.el212 T.if212
attribute [go_sem] T.sz217 T.by217 T.ag217 T.ze217 T.el217 T.fu217 T.ik223 T.sz223
attribute [go_sem] T.by223 T.ag223 T.ze223 T.el223 T.bo223 T.ik224 T.sz224 T.by224 T.ag224 T.ze224 T.el224 T.bo224 T.sz227 T.by227 T.ag227 T.ze227 T.el227 T.ar227 T.pl227
attribute [go_sem] T.sz230 T.by230 T.ag230 T.ze230 T.el230 T.ar230 T.pl230
attribute [go_sem] T.sz248 T.by248 T.ag248 T.ze248 T.el248 T.fu248 T.sz250 T.by250 T.ag250 T.ze250 T.el250 T.fu250 T.sz252
attribute [go_sem] T.by252 T.ag252 T.ze252 T.el252 T.pt252 T.sz256 T.by256 T.ag256 T.ze256 T.el256 T.fu256 T.sz258 T.by258 T.ag258 T.ze258 T.el258 T.sz259 T.by259 T.ag259 T.ze259 T.el259 T.ar259
attribute [go_sem] T.pl259 T.sz261 T.by261 T.ag261 T.ze261 T.el261 T.fl261_0 T.fl261_1 T.fl261_2 T.pl261
attribute [go_sem] T.sz271 T.by271 T.ag271 T.ze271 T.el271 T.fu271 T.sz272 T.by272 T.ag272 T.ze272 T.el272 T.fu272
attribute [go_sem] T.ik285 T.sz285 T.by285 T.ag285 T.ze285 T.el285 T.bo285
attribute [go_sem] T.ai91 T.an91
attribute [go_sem] T.kl152 T.mt152
end Go.Proofs.YtoadkchhimojlaaGreatDoor
namespace Go.Proofs
open Go.Shelf Go.RowKit Go.Lib
def Tryz.lays156_ren:Go.Shelf.Ren:=⟨fun|156=>108|165=>171|166=>172|169=>173|240=>192|241=>193|276=>212|277=>213|n=>n,fun|31=>33|9=>9|3=>3|4=>4|0=>0|20=>20|72=>242|76=>213|70=>239|37=>240|75=>212|127=>268|164=>281|5=>5|80=>210|n=>n,fun|n=>n⟩
theorem Tryz.lays156:Go.Proofs.Lays.n156 prog Tryz.lays156_ren:=by repeat' first|kernel_rfl|intro _|constructor
theorem Tryz.Builder_Extra_156:Builder.Extra prog Tryz.lays156_ren:={
 sizeBuilder:=by kernel_rfl
 liesBuilder:=by kernel_rfl
 t5:=Tryz.underlying5
 a5:=Tryz.isAgg5
 z5:=Tryz.sizeOf5
 v5:=Tryz.zeroValue5
 infoByte:=by kernel_rfl
 cellsByte:=by kernel_rfl
 sizeByte:=by kernel_rfl
 neB5:=by decide }
theorem Tryz.strings_Join_none(a:Option Addr)(c:Nat)(sep:ByteArray)(w:World):
  Calls prog 108 #[.slice a 0 c,.string sep] w fun e w'=>e= .returned (.string ⟨#[]⟩)∧w'=w:=Any.strings_Join_none Tryz.lays156 Tryz.Builder_Extra_156 a c sep w
theorem Tryz.strings_Join(bk o c:Nat)(xs:List ByteArray)(sep:ByteArray)(w:World)(hcells: ∀(j:Nat) x,xs[j]? =some x→w.cell? ⟨bk,o+j,none⟩=some (.string x))(hbk:bk<w.heap.size)(hN:xs.length≤140737488355328)(hcap:xs.length≤c)(hlen:(Lib.join (xs.map (·.data.toList)) sep.data.toList).length≤140737488355328):
  Calls prog 108 #[.slice (some ⟨bk,o,none⟩) xs.length c,.string sep] w fun e w'=>e= .returned (.string ⟨(Lib.join (xs.map (·.data.toList)) sep.data.toList).toArray⟩)∧Below w.heap.size w w':=Any.strings_Join Tryz.lays156 Tryz.Builder_Extra_156 bk o c xs sep w hcells hbk hN hcap hlen
def Tryz.laysM171_ren:Go.Shelf.Ren:=⟨fun|171=>109|243=>174|246=>194|283=>214|284=>215|285=>216|286=>217|129=>226|317=>225|318=>227|319=>228|320=>229|337=>232|338=>233|n=>n,fun|3=>3|9=>9|2=>2|4=>4|171=>284|0=>0|53=>285|37=>240|5=>5|173=>288|212=>305|51=>291|20=>20|213=>306|46=>223|232=>312|233=>313|n=>n,fun|17=>5|18=>6|19=>7|n=>n⟩
theorem Tryz.laysM171:Go.Proofs.LaysM.n171 prog Tryz.laysM171_ren:=by repeat' first|kernel_rfl|intro _|constructor
theorem Tryz.strconv_Itoa(n:Int)(h0: -9223372036854775808≤n)(h1:n≤9223372036854775807)(w:World)(htab:Lib.TabIs prog w "internal/strconv.uint64pow10" .u64 Lib.pow10Tab):
  Calls prog 109 #[.int .i64 n] w fun e w'=>e= .returned (.string ⟨(Lib.itoa n).toArray⟩)∧ ∃k os,w'=Go.Sort.grow (w.drewN k) os:=Any.strconv_Itoa Tryz.laysM171 n h0 h1 w htab
def Tryz.laysC172_ren:Go.Shelf.Ren:=⟨fun|172=>144|244=>183|245=>184|247=>201|279=>202|280=>203|281=>204|282=>205|287=>220|316=>221|171=>109|205=>222|321=>230|322=>231|243=>174|246=>194|283=>214|284=>215|285=>216|286=>217|129=>226|317=>225|318=>227|319=>228|320=>229|337=>232|338=>233|n=>n,fun|9=>9|3=>3|75=>212|76=>213|4=>4|5=>5|167=>274|37=>240|0=>0|85=>275|2=>2|168=>277|53=>285|175=>292|46=>223|210=>296|127=>268|145=>311|143=>309|21=>21|171=>284|173=>288|212=>305|51=>291|20=>20|213=>306|232=>312|233=>313|80=>210|n=>n,fun|15=>1|16=>2|17=>5|18=>6|19=>7|n=>n⟩
theorem Tryz.laysC172:Go.Proofs.LaysC.n172 prog Tryz.laysC172_ren:=by repeat' first|kernel_rfl|intro _|constructor
theorem Tryz.strconv_Atoi_ok(s:ByteArray)(hmax:s.size≤9223372036854775806)(v:Int)(h:Lib.atoiAll s.data.toList= .ok v)(w:World):
  Calls prog 144 #[.string s] w fun e w'=>e= .returned (.tuple #[.int .i64 v,.nilIface])∧(w'=w∨ ∃t,w'=Lib.bytesWorld w 5 t):=Any.strconv_Atoi_ok Tryz.laysC172 s hmax v h w
theorem Tryz.strconv_Atoi_syntax(s:ByteArray)(hlim:s.size≤281474976710656){z:Lib.NumEnd Int}(h:Lib.atoiAll s.data.toList=z)(hk: ∀x,z≠ .ok x)(hr:z≠ .range)(ev:Value)(w:World)(hv:w.cell? ⟨1,0,none⟩=some ev)(hev:ev= .nilIface∨ ∃te pe,ev= .iface te pe):
  Calls prog 144 #[.string s] w fun e w'=> ∃N,e= .returned (.tuple #[.int .i64 (0),.iface 277 (.pointer (some ⟨N,0,none⟩))])∧w.heap.size≤N∧w'.heap[N]? =some (.cells #[.string ⟨#[65,116,111,105]⟩,.string s,ev] 296 (0,0))∧Below w.heap.size w w':=by
 cases z with
 |ok x=>exact absurd rfl (hk x)
 |range=>exact absurd rfl hr
 |_=>exact Any.strconv_Atoi_syntax Tryz.laysC172 s hlim h ev w hv hev
theorem Tryz.strconv_Atoi_range(s:ByteArray)(hlim:s.size≤281474976710656)(h:Lib.atoiAll s.data.toList= .range)(ev:Value)(w:World)(hv:w.cell? ⟨2,0,none⟩=some ev)(hev:ev= .nilIface∨ ∃te pe,ev= .iface te pe):
  Calls prog 144 #[.string s] w fun e w'=> ∃N,e= .returned (.tuple #[.int .i64 (Lib.atoiSat s.data.toList),.iface 277 (.pointer (some ⟨N,0,none⟩))])∧w.heap.size≤N∧w'.heap[N]? =some (.cells #[.string ⟨#[65,116,111,105]⟩,.string s,ev] 296 (0,0))∧Below w.heap.size w w':=Any.strconv_Atoi_range Tryz.laysC172 s hlim h ev w hv hev
def Tryz.lays101_ren:Go.Shelf.Ren:=⟨fun|101=>145|208=>185|206=>206|n=>n,fun|9=>9|4=>4|3=>3|n=>n,fun|n=>n⟩
theorem Tryz.lays101:Go.Proofs.Lays.n101 prog Tryz.lays101_ren:=by repeat' first|kernel_rfl|intro _|constructor
theorem Tryz.strings_TrimPrefix(s p:ByteArray)(w:World):
  Calls prog 145 #[.string s,.string p] w fun e w'=>e= .returned (.string ⟨(Lib.trimPrefix s.data.toList p.data.toList).toArray⟩)∧w'=w:=Any.strings_TrimPrefix Tryz.lays101 s p w
def Tryz.lays146_ren:Go.Shelf.Ren:=⟨fun|146=>57|221=>107|268=>168|138=>169|143=>170|195=>188|197=>189|218=>190|219=>191|260=>207|217=>208|225=>209|224=>210|267=>211|266=>223|314=>224|n=>n,fun|9=>9|31=>33|3=>3|4=>4|0=>0|105=>265|21=>21|5=>5|46=>223|119=>298|139=>301|138=>300|146=>302|51=>291|n=>n,fun|1=>0|3=>3|4=>4|n=>n⟩
theorem Tryz.lays146:Go.Proofs.Lays.n146 prog Tryz.lays146_ren:=by repeat' first|kernel_rfl|intro _|constructor
theorem Tryz.strings_Split(s sep:ByteArray)(m:Int)(w:World)(hs:s.size<4294967281)(hm:w.cell? ⟨0,0,none⟩=some (.int .i64 m))(h1:1≤sep.size):
  Calls prog 57 #[.string s,.string sep] w fun e w'=>
   e= .returned (.slice (some ⟨w.heap.size,0,none⟩) (Lib.countB s sep+1) (Lib.countB s sep+1))∧w'=w.alloc (.cells ((Lib.splitB sep 0 (Lib.countB s sep) s).map Value.string).toArray 9):=Any.strings_Split Tryz.lays146 (by kernel_rfl) s sep m w hs hm h1
end Go.Proofs
namespace Go.Proofs.YtoadkchhimojlaaGreatDoor
open Go Go.Fl Go.RowKit
instance :Mx prog:=⟨by kernel_rfl⟩
theorem vl2{κ:Cx}{a b:AV}{cs:List Value}(h:VL κ [a,b] cs): ∃x y,cs=[x,y]∧V κ a x∧V κ b y:=by
 obtain⟨x,_,rfl,hx,y,_,rfl,hy,rfl⟩:=h
 exact⟨x,y,rfl,hx,hy⟩
theorem c145(s p:List UInt8):PC prog 145 [.str s,.str p] (.str (Lib.trimPrefix s p)):=
 PC.of_calls0 (enters_of Tryz.func145 (by kernel_rfl) rfl) fun κ cs hc hv=>by
  obtain⟨x,y,rfl,hx,hy⟩:=vl2 hv
  obtain rfl:x= .string ⟨s.toArray⟩:=hx
  obtain rfl:y= .string ⟨p.toArray⟩:=hy
  exact(Tryz.strings_TrimPrefix ⟨s.toArray⟩ ⟨p.toArray⟩ κ.w).mono fun e w' ⟨h1,h2⟩=>⟨_,h1,h2▸Below.refl _ _,fun κ'=>rfl⟩
theorem c109(n:Int)(hn:I64 n):PC prog 109 [.int .i64 n] (.str (Lib.itoa n)):=
 PC.of_calls0 (enters_of Tryz.func109 (by kernel_rfl) rfl) fun κ cs hc hv=>by
  obtain⟨x,_,rfl,hx,rfl⟩:=hv
  obtain rfl:x= .int .i64 n:=hx
  exact(Tryz.strconv_Itoa n hn.1 hn.2 κ.w (hc.tab (.tail _ (.tail _ (.tail _ (.head _)))) (by kernel_rfl) (by decide))).mono fun e w' ⟨h1,k,os,h2⟩=>⟨_,h1,h2▸below_grow _ _ _,fun κ'=>rfl⟩
def atoiV(s:List UInt8):AV:=match Lib.atoiAll s with
 | .ok v=> .tup [.int .i64 v,.lf .nilI]
 | .range=> .tup [.int .i64 (Lib.atoiSat s),.lf .ifn]
 |_=> .tup [.int .i64 0,.lf .ifn]
theorem err_cell{κ:Cx}(hc:Conc κ){g:Nat}(h:(g,[AV.lf .ifn])∈gtab): ∃ev,κ.w.cell? ⟨g,0,none⟩=some ev∧(ev= .nilIface∨ ∃te pe,ev= .iface te pe):=by
 obtain⟨⟨⟨c,q1,_,_,q4⟩,_⟩,_⟩:=hc.gl _ h
 exact⟨c,q1,.inr q4⟩
theorem v_tup2{κ:Cx}{a b:AV}{x y:Value}(h1:V κ a x)(h2:V κ b y):V κ (.tup [a,b]) (.tuple #[x,y]):=⟨_,rfl,_,_,rfl,h1,_,_,rfl,h2,rfl⟩
theorem c144(s:List UInt8)(hs:s.length≤281474976710656):PC prog 144 [.str s] (atoiV s):=
 PC.of_calls0 (enters_of Tryz.func144 (by kernel_rfl) rfl) fun κ cs hc hv=>by
  obtain⟨x,_,rfl,hx,rfl⟩:=hv
  obtain rfl:x= .string ⟨s.toArray⟩:=hx
  have hz:(ByteArray.mk s.toArray).size=s.length:=by simp[ByteArray.size]
  unfold atoiV
  cases ha:Lib.atoiAll s with
  |ok v=>
   refine(Tryz.strconv_Atoi_ok ⟨s.toArray⟩ (by omega) v ha κ.w).mono fun e w' ⟨h1,h2⟩=>⟨_,h1,?_,fun κ'=>v_tup2 rfl rfl⟩
   rcases h2 with rfl|⟨t,rfl⟩
   ·exact Below.refl _ _
   ·exact Go.Joins.below_bytesWorld _ _ _ _ (Nat.le_refl _)
  |range=>
   obtain⟨ev,h1,h2⟩:=err_cell hc (g:=2) (.tail _ (.tail _ (.head _)))
   exact(Tryz.strconv_Atoi_range ⟨s.toArray⟩ (by omega) ha ev κ.w h1 h2).mono fun e w' ⟨N,h1,_,_,h2⟩=>⟨_,h1,h2,fun κ'=>v_tup2 rfl ⟨_,_,rfl⟩⟩
  |_=>
   obtain⟨ev,h1,h2⟩:=err_cell hc (g:=1) (.tail _ (.head _))
   exact(Tryz.strconv_Atoi_syntax ⟨s.toArray⟩ (by omega) ha (fun _ h=>nomatch h) (fun h=>nomatch h) ev κ.w h1 h2).mono fun e w' ⟨N,h1,_,_,h2⟩=>⟨_,h1,h2,fun κ'=>v_tup2 rfl ⟨_,_,rfl⟩⟩
theorem c108(f:Bool)(l:List (List UInt8))(sep:List UInt8)(hl:(Lib.join l sep).length≤140737488355328)(hn:l.length≤140737488355328):PC prog 108 [.lst f 1 (strs l),.str sep] (.str (Lib.join l sep)):=
 PC.of_calls0 (enters_of Tryz.func108 (by kernel_rfl) rfl) fun κ cs hc hv=>by
  obtain⟨x,y,rfl,hx,hy⟩:=vl2 hv
  obtain rfl:y= .string ⟨sep.toArray⟩:=hy
  obtain⟨A,cap,rfl,h1,h2,_,h4,h5,_⟩:=hx
  rw[strs_len]at h1 ⊢
  have he:(l.map fun s=>ByteArray.mk s.toArray).map (·.data.toList)=l:=by simp[Function.comp_def]
  by_cases h0:cap=0
  ·have:l=[]:=List.eq_nil_of_length_eq_zero (by omega)
   subst this
   exact(Tryz.strings_Join_none A cap ⟨sep.toArray⟩ κ.w).mono fun e w' ⟨h1,h2⟩=>⟨_,h1,h2▸Below.refl _ _,fun κ'=>by rw[Lib.join_nil];rfl⟩
  ·cases A with
   |none=>exact absurd (h5 rfl) h0
   |some ad=>
    obtain⟨q1,q2⟩:=h4 ad rfl
    have q1:=q1 h0
    obtain⟨bk,o,sp⟩:=ad
    obtain rfl:sp=none:=q1
    have hcl:=pve_strs l o q2
    by_cases hl0:l=[]
    ·subst hl0
     exact(Tryz.strings_Join_none (some ⟨bk,o,none⟩) cap ⟨sep.toArray⟩ κ.w).mono fun e w' ⟨h1,h2⟩=>⟨_,h1,h2▸Below.refl _ _,fun κ'=>by rw[Lib.join_nil];rfl⟩
    ·have hbk:bk<κ.w.heap.size:=by
      cases l with
      |nil=>exact absurd rfl hl0
      |cons a l=>exact hc.swf _ _ (hcl 0 a rfl).2
     have:=Tryz.strings_Join bk o cap (l.map fun s=>ByteArray.mk s.toArray) ⟨sep.toArray⟩ κ.w (fun j x hj=>by
      rw[List.getElem?_map]at hj
      obtain⟨s,hs,rfl⟩:=Option.map_eq_some_iff.1 hj
      exact(hcl j s hs).1) hbk (by simpa using hn) (by simpa using h1) (by rw[he];exact hl)
     rw[he,List.length_map]at this
     exact this.mono fun e w' ⟨h1,h2⟩=>⟨_,h1,h2,fun κ'=>rfl⟩
def splitP:List UInt8→List (List UInt8)
 |[]=>[[]]
 |c::l=>if c=32 then []::splitP l else match splitP l with
  |[]=>[[c]]
  |w::r=>(c::w)::r
theorem index_ge'(s sub:List UInt8):Lib.index s sub= -1∨ ∃i:Nat,Lib.index s sub=i:=by
 have:=Lib.index_ge s sub
 by_cases h:Lib.index s sub= -1
 ·exact .inl h
 ·exact .inr ⟨(Lib.index s sub).toNat,by omega⟩
theorem index_32(c:UInt8)(l:List UInt8):Lib.index (c::l) [32]=if c=32 then 0 else if Lib.index l [32]= -1 then-1 else Lib.index l [32]+1:=by
 rw[Lib.index]
 by_cases h:c=32
 ·subst h;simp
 ·have h2: ¬(32:UInt8)=c:=fun e=>h e.symm
  simp[List.isPrefixOf,h,h2]
theorem split_eq: ∀l:List UInt8,Lib.splitK [32] 0 (Lib.count l [32]) l=splitP l
 |[]=>by
  rw[Lib.count_miss (by rfl)];rfl
 |c::l=>by
  have ih:=split_eq l
  have hi:=index_32 c l
  unfold splitP
  by_cases h:c=32
  ·rw[if_pos h]at hi ⊢
   rw[Lib.count_hit (i:=0) (by simp) (by simpa using hi)]
   rw[Nat.add_comm,Lib.splitK,hi,← ih]
   simp
  ·rw[if_neg h]at hi ⊢
   rcases index_ge' l [32]with h1|⟨i,h1⟩
   ·rw[if_pos h1]at hi
    rw[Lib.count_miss hi]
    rw[Lib.count_miss h1]at ih
    rw[←ih];rfl
   ·rw[if_neg (by omega),h1]at hi
    rw[Lib.count_hit (i:=i+1) (by simp) (by simpa using hi)]
    rw[Lib.count_hit (i:=i) (by simp) h1]at ih
    rw[Nat.add_comm 1,Lib.splitK,h1]at ih
    rw[Nat.add_comm 1,Lib.splitK,hi,← ih]
    have e1: ¬((i:Int) == -1)=true:=by simp
    have e2: ¬((i:Int)+1 == -1)=true:=by simp;omega
    rw[if_neg e1,if_neg e2]
    have e3:((i:Int)+1).toNat=i+1:=by omega
    simp[e3]
theorem c57(s:List UInt8)(hs:s.length<4294967281):PC prog 57 [.str s,.str [32]] (.lst true 1 (strs (splitP s))):=
 PC.of_calls (enters_of Tryz.func57 (by kernel_rfl) rfl) fun κ cs hc hv=>by
  obtain⟨x,y,rfl,hx,hy⟩:=vl2 hv
  obtain rfl:x= .string ⟨s.toArray⟩:=hx
  obtain rfl:y= .string ⟨#[32]⟩:=hy
  obtain⟨⟨⟨c,q1,q2,q3,n,rfl⟩,_⟩,_⟩:=hc.gl (0,[.lf (.ai .i64)]) (.head _)
  have hz:(ByteArray.mk s.toArray).size=s.length:=by simp[ByteArray.size]
  refine(Tryz.strings_Split ⟨s.toArray⟩ ⟨#[32]⟩ n κ.w (by omega) q1 (by decide)).mono fun e w' ⟨h1,h2⟩=>?_
  have hl:(Lib.splitB ⟨#[32]⟩ 0 (Lib.countB ⟨s.toArray⟩ ⟨#[32]⟩) ⟨s.toArray⟩).map (·.data.toList)=splitP s:=by
   rw[Lib.splitB_data,← split_eq]
  have hn:(splitP s).length=Lib.countB ⟨s.toArray⟩ ⟨#[32]⟩+1:=by
   rw[←hl,List.length_map]
   exact Lib.splitB_all _ (by decide) _ _ _ rfl
  have hcnt:=Lib.countB_le ⟨#[32]⟩ (by decide) _ ⟨s.toArray⟩ (Nat.le_refl _)
  rw[hz]at hcnt
  subst h2
  refine⟨_,fun g o=>κ.S g o∨g=κ.w.heap.size,h1,(Below.refl _ _).alloc (Nat.le_refl _) _,fun g o h=> .inl h,fun g o h=>h.imp id fun e=>⟨by omega,by simp[e]⟩,?_⟩
  refine⟨some ⟨κ.w.heap.size,0,none⟩,_,by rw[strs_len,hn],by rw[strs_len,hn];exact Nat.le_refl _,by unfold maxLen;omega,fun _=>by rw[strs_len,hn],fun ad ha=>?_,(fun e=>by cases e),fun e he=>?_⟩
  ·cases ha
   refine⟨fun _=>rfl,pve_mk _ _ fun j t hj=>⟨?_,.inr rfl⟩⟩
   rw[←hl,List.getElem?_map]at hj
   obtain⟨u,hu,rfl⟩:=Option.map_eq_some_iff.1 hj
   simp only[World.cell?, Nat.zero_add]
   rw[heap_alloc_new]
   simp[hu]
  ·simp only[strs,List.mem_map]at he
   obtain⟨u,_,rfl⟩:=he
   rfl
theorem splitP_ne(l:List UInt8):splitP l≠[]:=by
 cases l with
 |nil=>simp[splitP]
 |cons c l=>
  unfold splitP
  split
  ·simp
  ·split<;>simp
end Go.Proofs.YtoadkchhimojlaaGreatDoor
