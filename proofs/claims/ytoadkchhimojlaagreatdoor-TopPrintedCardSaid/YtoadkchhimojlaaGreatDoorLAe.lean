/- Contracts of functions of the given program, without a condition beyond those that each theorem states; they lead to the given statement. -/
import Derived.Test.YtoadkchhimojlaaGreatDoorLAd
import Derived.Test.YtoadkchhimojlaaGreatDoorFlC
set_option linter.unusedSectionVars false
set_option linter.unusedSimpArgs false
set_option linter.unusedVariables false
set_option maxRecDepth 100000
open List(length_map map_append map_cons map_nil mem_of_getElem?)
open Go.Proofs.Tryz(prog)
namespace Go.Proofs.YtoadkchhimojlaaGreatDoor
open Go Go.Fl
open Classical
def encS(e:Int×Int×Int):List AV:=[.int .i64 e.1,.int .i64 e.2.1,.int .i64 e.2.2]
theorem pureS(l:List (Int×Int×Int)):pureE (l.map encS)=True:=pureE_map fun _=>rfl
attribute [go_sem] pureS
def setTo(s:List Int):Nat→List (Int×Int×Int)
 |0=>[]
 |k+1=>if 0<gv s k then setTo s k++[(((k / 3:Nat):Int),((k % 3:Nat):Int),gv s k)]else setTo s k
theorem setTo_len(s:List Int): ∀k,(setTo s k).length≤k
 |0=>Nat.le_refl _
 |k+1=>by have:=setTo_len s k;rw[setTo];split<;>simp<;>omega
theorem setTo_yes{s:List Int}{k:Nat}{q r x:Int}(hx:s[k]? =some x)(h:0<x)(hq:((k / 3:Nat):Int)=q)(hr:((k % 3:Nat):Int)=r):(setTo s (k+1)).map encS=(setTo s k).map encS++[[.int .i64 q,.int .i64 r,.int .i64 x]]∧(setTo s (k+1)).length=(setTo s k).length+1:=by
 have e:=gv_nat hx
 rw[setTo,e,if_pos h,← hq,← hr]
 exact⟨by rw[map_append];rfl,by simp⟩
theorem setTo_no{s:List Int}{k:Nat}{x:Int}(hx:s[k]? =some x)(h: ¬0<x):(setTo s (k+1)).map encS=(setTo s k).map encS∧(setTo s (k+1)).length=(setTo s k).length:=by
 rw[setTo,gv_nat hx,if_neg h];exact⟨rfl,rfl⟩
set_option maxHeartbeats 16000000 in
theorem c37(s:List Int)(hs:s.length=12):PC prog 37 [.agg (s.map I)] (.lst false 3 ((setTo s 12).map encS)):=by
 have bd:=setTo_len s
 have yes:=fun k q r x (hx:s[k]? =some x) (h:0<x) hq hr=>setTo_yes (q:=q) (r:=r) hx h hq hr
 have no:=fun k x (hx:s[k]? =some x) (h: ¬0<x)=>setTo_no hx h
 obtain⟨a0,a1,a2,a3,a4,a5,a6,a7,a8,a9,a10,a11,rfl⟩:=shelf12 hs
 simp only[map_cons,map_nil,I]
 clear hs
 have y0:=fun h=>yes 0 0 0 a0 rfl h rfl rfl
 have n0:=fun h=>no 0 a0 rfl h
 have y1:=fun h=>yes 1 0 1 a1 rfl h rfl rfl
 have n1:=fun h=>no 1 a1 rfl h
 have y2:=fun h=>yes 2 0 2 a2 rfl h rfl rfl
 have n2:=fun h=>no 2 a2 rfl h
 have y3:=fun h=>yes 3 1 0 a3 rfl h rfl rfl
 have n3:=fun h=>no 3 a3 rfl h
 have y4:=fun h=>yes 4 1 1 a4 rfl h rfl rfl
 have n4:=fun h=>no 4 a4 rfl h
 have y5:=fun h=>yes 5 1 2 a5 rfl h rfl rfl
 have n5:=fun h=>no 5 a5 rfl h
 have y6:=fun h=>yes 6 2 0 a6 rfl h rfl rfl
 have n6:=fun h=>no 6 a6 rfl h
 have y7:=fun h=>yes 7 2 1 a7 rfl h rfl rfl
 have n7:=fun h=>no 7 a7 rfl h
 have y8:=fun h=>yes 8 2 2 a8 rfl h rfl rfl
 have n8:=fun h=>no 8 a8 rfl h
 have y9:=fun h=>yes 9 3 0 a9 rfl h rfl rfl
 have n9:=fun h=>no 9 a9 rfl h
 have y10:=fun h=>yes 10 3 1 a10 rfl h rfl rfl
 have n10:=fun h=>no 10 a10 rfl h
 have y11:=fun h=>yes 11 3 2 a11 rfl h rfl rfl
 have n11:=fun h=>no 11 a11 rfl h
 clear yes no
 have e0:(setTo [a0,a1,a2,a3,a4,a5,a6,a7,a8,a9,a10,a11] 0).map encS=[]:=rfl
 have l0:(setTo [a0,a1,a2,a3,a4,a5,a6,a7,a8,a9,a10,a11] 0).length=0:=rfl
 generalize hE:setTo [a0,a1,a2,a3,a4,a5,a6,a7,a8,a9,a10,a11]=E at*
 refine pB Tryz.func37 fun hlen=>CV.run ?_
 simp only[Tryz.f37]
 simp only[go_sem,length_map,and_true,true_and]at hlen
 repeat' first|refine sP ?_ ?_<;>intro hb<;>(try rw[hb])<;>(try simp only[bb]at hb)<;>(try simp only[within]at hb)<;>try simp only[go_sem]|refine aI ?_|simp only[go_sem]
 refine vc_fw (fun i=>⟨[(9,.int .i64 i),(3,.row 1 (E (3*i)).length),(2,.nilS),(8,.agg [.int .i64 a0,.int .i64 a1,.int .i64 a2,.int .i64 a3,.int .i64 a4,.int .i64 a5,.int .i64 a6,.int .i64 a7,.int .i64 a8,.int .i64 a9,.int .i64 a10,.int .i64 a11])],[.box 91 [.int .i64 a0,.int .i64 a1,.int .i64 a2,.int .i64 a3,.int .i64 a4,.int .i64 a5,.int .i64 a6,.int .i64 a7,.int .i64 a8,.int .i64 a9,.int .i64 a10,.int .i64 a11] false,.row 148 3 ((E (3*i)).map encS) false]⟩) 4 (fun _=>True) (.nilE 3 148 3 (by(simp only[go_sem])) (by omega) (.base (by(first|exact wk_same (by simp only[go_sem,ic,e0,l0])|(refine wk_drop ?_ ?_ ?_ ?_ ?_<;>simp only[go_sem,ic,e0,l0]))))) trivial ?_
 intro i hi _
 rcases Nat.lt_or_ge i 4 with hlt|hge
 ·have hc:i=0∨i=1∨i=2∨i=3:=by omega
  rcases hc with rfl|rfl|rfl|rfl
  ·repeat' first|refine sP ?_ ?_<;>intro hb<;>(try rw[hb])<;>(try simp only[bb]at hb)<;>(try simp only[within]at hb)<;>try simp only[go_sem]|refine aI ?_|simp only[go_sem]
   refine vc_for (fun j=>⟨[(14,.int .i64 j),(3,.row 1 (E (0+j)).length),(13,.agg [.int .i64 a0,.int .i64 a1,.int .i64 a2]),(4,.int .i64 0),(9,.int .i64 0),(2,.nilS),(8,.agg [.int .i64 a0,.int .i64 a1,.int .i64 a2,.int .i64 a3,.int .i64 a4,.int .i64 a5,.int .i64 a6,.int .i64 a7,.int .i64 a8,.int .i64 a9,.int .i64 a10,.int .i64 a11])],[.box 91 [.int .i64 a0,.int .i64 a1,.int .i64 a2,.int .i64 a3,.int .i64 a4,.int .i64 a5,.int .i64 a6,.int .i64 a7,.int .i64 a8,.int .i64 a9,.int .i64 a10,.int .i64 a11] false,.row 148 3 ((E (0+j)).map encS) false,.box 89 [.int .i64 a0,.int .i64 a1,.int .i64 a2] false]⟩) 3 (fun _=>True) (by(first|exact wk_same (by simp only[go_sem,ic,Nat.add_zero])|(refine wk_drop ?_ ?_ ?_ ?_ ?_<;>simp only[go_sem,ic,Nat.add_zero]))) trivial ?_
   intro j hj _
   rcases Nat.lt_or_ge j 3 with hjl|hjg
   ·have hcj:j=0∨j=1∨j=2:=by omega
    rcases hcj with rfl|rfl|rfl
    ·have b:=bd 0
     by_cases h:0<a0
     ·obtain⟨q1,q2⟩:=y0 h
      repeat' first|refine sP ?_ ?_<;>intro hb<;>(try rw[hb])<;>(try simp only[bb]at hb)<;>(try simp only[within]at hb)<;>try simp only[go_sem,Nat.reduceAdd,h,length_map]|refine aI ?_|simp only[go_sem,Nat.reduceAdd,h,length_map]
      all_goals first|exact(by(first|exact wk_same (by simp only[go_sem,ic,q1,q2])|(refine wk_drop ?_ ?_ ?_ ?_ ?_<;>simp only[go_sem,ic,q1,q2])))|exact⟨⟨by omega,by omega⟩,by(first|exact wk_same (by simp only[go_sem,ic,q1,q2])|(refine wk_drop ?_ ?_ ?_ ?_ ?_<;>simp only[go_sem,ic,q1,q2]))⟩
     ·obtain⟨q1,q2⟩:=n0 h
      repeat' first|refine sP ?_ ?_<;>intro hb<;>(try rw[hb])<;>(try simp only[bb]at hb)<;>(try simp only[within]at hb)<;>try simp only[go_sem,Nat.reduceAdd,h,length_map]|refine aI ?_|simp only[go_sem,Nat.reduceAdd,h,length_map]
      all_goals first|exact(by(first|exact wk_same (by simp only[go_sem,ic,q1,q2])|(refine wk_drop ?_ ?_ ?_ ?_ ?_<;>simp only[go_sem,ic,q1,q2])))
    ·have b:=bd 1
     by_cases h:0<a1
     ·obtain⟨q1,q2⟩:=y1 h
      repeat' first|refine sP ?_ ?_<;>intro hb<;>(try rw[hb])<;>(try simp only[bb]at hb)<;>(try simp only[within]at hb)<;>try simp only[go_sem,Nat.reduceAdd,h,length_map]|refine aI ?_|simp only[go_sem,Nat.reduceAdd,h,length_map]
      all_goals first|exact(by(first|exact wk_same (by simp only[go_sem,ic,q1,q2])|(refine wk_drop ?_ ?_ ?_ ?_ ?_<;>simp only[go_sem,ic,q1,q2])))|exact⟨⟨by omega,by omega⟩,by(first|exact wk_same (by simp only[go_sem,ic,q1,q2])|(refine wk_drop ?_ ?_ ?_ ?_ ?_<;>simp only[go_sem,ic,q1,q2]))⟩
     ·obtain⟨q1,q2⟩:=n1 h
      repeat' first|refine sP ?_ ?_<;>intro hb<;>(try rw[hb])<;>(try simp only[bb]at hb)<;>(try simp only[within]at hb)<;>try simp only[go_sem,Nat.reduceAdd,h,length_map]|refine aI ?_|simp only[go_sem,Nat.reduceAdd,h,length_map]
      all_goals first|exact(by(first|exact wk_same (by simp only[go_sem,ic,q1,q2])|(refine wk_drop ?_ ?_ ?_ ?_ ?_<;>simp only[go_sem,ic,q1,q2])))
    ·have b:=bd 2
     by_cases h:0<a2
     ·obtain⟨q1,q2⟩:=y2 h
      repeat' first|refine sP ?_ ?_<;>intro hb<;>(try rw[hb])<;>(try simp only[bb]at hb)<;>(try simp only[within]at hb)<;>try simp only[go_sem,Nat.reduceAdd,h,length_map]|refine aI ?_|simp only[go_sem,Nat.reduceAdd,h,length_map]
      all_goals first|exact(by(first|exact wk_same (by simp only[go_sem,ic,q1,q2])|(refine wk_drop ?_ ?_ ?_ ?_ ?_<;>simp only[go_sem,ic,q1,q2])))|exact⟨⟨by omega,by omega⟩,by(first|exact wk_same (by simp only[go_sem,ic,q1,q2])|(refine wk_drop ?_ ?_ ?_ ?_ ?_<;>simp only[go_sem,ic,q1,q2]))⟩
     ·obtain⟨q1,q2⟩:=n2 h
      repeat' first|refine sP ?_ ?_<;>intro hb<;>(try rw[hb])<;>(try simp only[bb]at hb)<;>(try simp only[within]at hb)<;>try simp only[go_sem,Nat.reduceAdd,h,length_map]|refine aI ?_|simp only[go_sem,Nat.reduceAdd,h,length_map]
      all_goals first|exact(by(first|exact wk_same (by simp only[go_sem,ic,q1,q2])|(refine wk_drop ?_ ?_ ?_ ?_ ?_<;>simp only[go_sem,ic,q1,q2])))
   ·have:j=3:=by omega
    subst this
    repeat' first|refine sP ?_ ?_<;>intro hb<;>(try rw[hb])<;>(try simp only[bb]at hb)<;>(try simp only[within]at hb)<;>try simp only[go_sem]|refine aI ?_|simp only[go_sem]
    all_goals first|exact .base (by exact w0)
  ·repeat' first|refine sP ?_ ?_<;>intro hb<;>(try rw[hb])<;>(try simp only[bb]at hb)<;>(try simp only[within]at hb)<;>try simp only[go_sem]|refine aI ?_|simp only[go_sem]
   refine vc_for (fun j=>⟨[(14,.int .i64 j),(3,.row 1 (E (3+j)).length),(13,.agg [.int .i64 a3,.int .i64 a4,.int .i64 a5]),(4,.int .i64 1),(9,.int .i64 1),(2,.nilS),(8,.agg [.int .i64 a0,.int .i64 a1,.int .i64 a2,.int .i64 a3,.int .i64 a4,.int .i64 a5,.int .i64 a6,.int .i64 a7,.int .i64 a8,.int .i64 a9,.int .i64 a10,.int .i64 a11])],[.box 91 [.int .i64 a0,.int .i64 a1,.int .i64 a2,.int .i64 a3,.int .i64 a4,.int .i64 a5,.int .i64 a6,.int .i64 a7,.int .i64 a8,.int .i64 a9,.int .i64 a10,.int .i64 a11] false,.row 148 3 ((E (3+j)).map encS) false,.box 89 [.int .i64 a3,.int .i64 a4,.int .i64 a5] false]⟩) 3 (fun _=>True) (by(first|exact wk_same (by simp only[go_sem,ic,Nat.add_zero])|(refine wk_drop ?_ ?_ ?_ ?_ ?_<;>simp only[go_sem,ic,Nat.add_zero]))) trivial ?_
   intro j hj _
   rcases Nat.lt_or_ge j 3 with hjl|hjg
   ·have hcj:j=0∨j=1∨j=2:=by omega
    rcases hcj with rfl|rfl|rfl
    ·have b:=bd 3
     by_cases h:0<a3
     ·obtain⟨q1,q2⟩:=y3 h
      repeat' first|refine sP ?_ ?_<;>intro hb<;>(try rw[hb])<;>(try simp only[bb]at hb)<;>(try simp only[within]at hb)<;>try simp only[go_sem,Nat.reduceAdd,h,length_map]|refine aI ?_|simp only[go_sem,Nat.reduceAdd,h,length_map]
      all_goals first|exact(by(first|exact wk_same (by simp only[go_sem,ic,q1,q2])|(refine wk_drop ?_ ?_ ?_ ?_ ?_<;>simp only[go_sem,ic,q1,q2])))|exact⟨⟨by omega,by omega⟩,by(first|exact wk_same (by simp only[go_sem,ic,q1,q2])|(refine wk_drop ?_ ?_ ?_ ?_ ?_<;>simp only[go_sem,ic,q1,q2]))⟩
     ·obtain⟨q1,q2⟩:=n3 h
      repeat' first|refine sP ?_ ?_<;>intro hb<;>(try rw[hb])<;>(try simp only[bb]at hb)<;>(try simp only[within]at hb)<;>try simp only[go_sem,Nat.reduceAdd,h,length_map]|refine aI ?_|simp only[go_sem,Nat.reduceAdd,h,length_map]
      all_goals first|exact(by(first|exact wk_same (by simp only[go_sem,ic,q1,q2])|(refine wk_drop ?_ ?_ ?_ ?_ ?_<;>simp only[go_sem,ic,q1,q2])))
    ·have b:=bd 4
     by_cases h:0<a4
     ·obtain⟨q1,q2⟩:=y4 h
      repeat' first|refine sP ?_ ?_<;>intro hb<;>(try rw[hb])<;>(try simp only[bb]at hb)<;>(try simp only[within]at hb)<;>try simp only[go_sem,Nat.reduceAdd,h,length_map]|refine aI ?_|simp only[go_sem,Nat.reduceAdd,h,length_map]
      all_goals first|exact(by(first|exact wk_same (by simp only[go_sem,ic,q1,q2])|(refine wk_drop ?_ ?_ ?_ ?_ ?_<;>simp only[go_sem,ic,q1,q2])))|exact⟨⟨by omega,by omega⟩,by(first|exact wk_same (by simp only[go_sem,ic,q1,q2])|(refine wk_drop ?_ ?_ ?_ ?_ ?_<;>simp only[go_sem,ic,q1,q2]))⟩
     ·obtain⟨q1,q2⟩:=n4 h
      repeat' first|refine sP ?_ ?_<;>intro hb<;>(try rw[hb])<;>(try simp only[bb]at hb)<;>(try simp only[within]at hb)<;>try simp only[go_sem,Nat.reduceAdd,h,length_map]|refine aI ?_|simp only[go_sem,Nat.reduceAdd,h,length_map]
      all_goals first|exact(by(first|exact wk_same (by simp only[go_sem,ic,q1,q2])|(refine wk_drop ?_ ?_ ?_ ?_ ?_<;>simp only[go_sem,ic,q1,q2])))
    ·have b:=bd 5
     by_cases h:0<a5
     ·obtain⟨q1,q2⟩:=y5 h
      repeat' first|refine sP ?_ ?_<;>intro hb<;>(try rw[hb])<;>(try simp only[bb]at hb)<;>(try simp only[within]at hb)<;>try simp only[go_sem,Nat.reduceAdd,h,length_map]|refine aI ?_|simp only[go_sem,Nat.reduceAdd,h,length_map]
      all_goals first|exact(by(first|exact wk_same (by simp only[go_sem,ic,q1,q2])|(refine wk_drop ?_ ?_ ?_ ?_ ?_<;>simp only[go_sem,ic,q1,q2])))|exact⟨⟨by omega,by omega⟩,by(first|exact wk_same (by simp only[go_sem,ic,q1,q2])|(refine wk_drop ?_ ?_ ?_ ?_ ?_<;>simp only[go_sem,ic,q1,q2]))⟩
     ·obtain⟨q1,q2⟩:=n5 h
      repeat' first|refine sP ?_ ?_<;>intro hb<;>(try rw[hb])<;>(try simp only[bb]at hb)<;>(try simp only[within]at hb)<;>try simp only[go_sem,Nat.reduceAdd,h,length_map]|refine aI ?_|simp only[go_sem,Nat.reduceAdd,h,length_map]
      all_goals first|exact(by(first|exact wk_same (by simp only[go_sem,ic,q1,q2])|(refine wk_drop ?_ ?_ ?_ ?_ ?_<;>simp only[go_sem,ic,q1,q2])))
   ·have:j=3:=by omega
    subst this
    repeat' first|refine sP ?_ ?_<;>intro hb<;>(try rw[hb])<;>(try simp only[bb]at hb)<;>(try simp only[within]at hb)<;>try simp only[go_sem]|refine aI ?_|simp only[go_sem]
    all_goals first|exact .base (by exact w0)
  ·repeat' first|refine sP ?_ ?_<;>intro hb<;>(try rw[hb])<;>(try simp only[bb]at hb)<;>(try simp only[within]at hb)<;>try simp only[go_sem]|refine aI ?_|simp only[go_sem]
   refine vc_for (fun j=>⟨[(14,.int .i64 j),(3,.row 1 (E (6+j)).length),(13,.agg [.int .i64 a6,.int .i64 a7,.int .i64 a8]),(4,.int .i64 2),(9,.int .i64 2),(2,.nilS),(8,.agg [.int .i64 a0,.int .i64 a1,.int .i64 a2,.int .i64 a3,.int .i64 a4,.int .i64 a5,.int .i64 a6,.int .i64 a7,.int .i64 a8,.int .i64 a9,.int .i64 a10,.int .i64 a11])],[.box 91 [.int .i64 a0,.int .i64 a1,.int .i64 a2,.int .i64 a3,.int .i64 a4,.int .i64 a5,.int .i64 a6,.int .i64 a7,.int .i64 a8,.int .i64 a9,.int .i64 a10,.int .i64 a11] false,.row 148 3 ((E (6+j)).map encS) false,.box 89 [.int .i64 a6,.int .i64 a7,.int .i64 a8] false]⟩) 3 (fun _=>True) (by(first|exact wk_same (by simp only[go_sem,ic,Nat.add_zero])|(refine wk_drop ?_ ?_ ?_ ?_ ?_<;>simp only[go_sem,ic,Nat.add_zero]))) trivial ?_
   intro j hj _
   rcases Nat.lt_or_ge j 3 with hjl|hjg
   ·have hcj:j=0∨j=1∨j=2:=by omega
    rcases hcj with rfl|rfl|rfl
    ·have b:=bd 6
     by_cases h:0<a6
     ·obtain⟨q1,q2⟩:=y6 h
      repeat' first|refine sP ?_ ?_<;>intro hb<;>(try rw[hb])<;>(try simp only[bb]at hb)<;>(try simp only[within]at hb)<;>try simp only[go_sem,Nat.reduceAdd,h,length_map]|refine aI ?_|simp only[go_sem,Nat.reduceAdd,h,length_map]
      all_goals first|exact(by(first|exact wk_same (by simp only[go_sem,ic,q1,q2])|(refine wk_drop ?_ ?_ ?_ ?_ ?_<;>simp only[go_sem,ic,q1,q2])))|exact⟨⟨by omega,by omega⟩,by(first|exact wk_same (by simp only[go_sem,ic,q1,q2])|(refine wk_drop ?_ ?_ ?_ ?_ ?_<;>simp only[go_sem,ic,q1,q2]))⟩
     ·obtain⟨q1,q2⟩:=n6 h
      repeat' first|refine sP ?_ ?_<;>intro hb<;>(try rw[hb])<;>(try simp only[bb]at hb)<;>(try simp only[within]at hb)<;>try simp only[go_sem,Nat.reduceAdd,h,length_map]|refine aI ?_|simp only[go_sem,Nat.reduceAdd,h,length_map]
      all_goals first|exact(by(first|exact wk_same (by simp only[go_sem,ic,q1,q2])|(refine wk_drop ?_ ?_ ?_ ?_ ?_<;>simp only[go_sem,ic,q1,q2])))
    ·have b:=bd 7
     by_cases h:0<a7
     ·obtain⟨q1,q2⟩:=y7 h
      repeat' first|refine sP ?_ ?_<;>intro hb<;>(try rw[hb])<;>(try simp only[bb]at hb)<;>(try simp only[within]at hb)<;>try simp only[go_sem,Nat.reduceAdd,h,length_map]|refine aI ?_|simp only[go_sem,Nat.reduceAdd,h,length_map]
      all_goals first|exact(by(first|exact wk_same (by simp only[go_sem,ic,q1,q2])|(refine wk_drop ?_ ?_ ?_ ?_ ?_<;>simp only[go_sem,ic,q1,q2])))|exact⟨⟨by omega,by omega⟩,by(first|exact wk_same (by simp only[go_sem,ic,q1,q2])|(refine wk_drop ?_ ?_ ?_ ?_ ?_<;>simp only[go_sem,ic,q1,q2]))⟩
     ·obtain⟨q1,q2⟩:=n7 h
      repeat' first|refine sP ?_ ?_<;>intro hb<;>(try rw[hb])<;>(try simp only[bb]at hb)<;>(try simp only[within]at hb)<;>try simp only[go_sem,Nat.reduceAdd,h,length_map]|refine aI ?_|simp only[go_sem,Nat.reduceAdd,h,length_map]
      all_goals first|exact(by(first|exact wk_same (by simp only[go_sem,ic,q1,q2])|(refine wk_drop ?_ ?_ ?_ ?_ ?_<;>simp only[go_sem,ic,q1,q2])))
    ·have b:=bd 8
     by_cases h:0<a8
     ·obtain⟨q1,q2⟩:=y8 h
      repeat' first|refine sP ?_ ?_<;>intro hb<;>(try rw[hb])<;>(try simp only[bb]at hb)<;>(try simp only[within]at hb)<;>try simp only[go_sem,Nat.reduceAdd,h,length_map]|refine aI ?_|simp only[go_sem,Nat.reduceAdd,h,length_map]
      all_goals first|exact(by(first|exact wk_same (by simp only[go_sem,ic,q1,q2])|(refine wk_drop ?_ ?_ ?_ ?_ ?_<;>simp only[go_sem,ic,q1,q2])))|exact⟨⟨by omega,by omega⟩,by(first|exact wk_same (by simp only[go_sem,ic,q1,q2])|(refine wk_drop ?_ ?_ ?_ ?_ ?_<;>simp only[go_sem,ic,q1,q2]))⟩
     ·obtain⟨q1,q2⟩:=n8 h
      repeat' first|refine sP ?_ ?_<;>intro hb<;>(try rw[hb])<;>(try simp only[bb]at hb)<;>(try simp only[within]at hb)<;>try simp only[go_sem,Nat.reduceAdd,h,length_map]|refine aI ?_|simp only[go_sem,Nat.reduceAdd,h,length_map]
      all_goals first|exact(by(first|exact wk_same (by simp only[go_sem,ic,q1,q2])|(refine wk_drop ?_ ?_ ?_ ?_ ?_<;>simp only[go_sem,ic,q1,q2])))
   ·have:j=3:=by omega
    subst this
    repeat' first|refine sP ?_ ?_<;>intro hb<;>(try rw[hb])<;>(try simp only[bb]at hb)<;>(try simp only[within]at hb)<;>try simp only[go_sem]|refine aI ?_|simp only[go_sem]
    all_goals first|exact .base (by exact w0)
  ·repeat' first|refine sP ?_ ?_<;>intro hb<;>(try rw[hb])<;>(try simp only[bb]at hb)<;>(try simp only[within]at hb)<;>try simp only[go_sem]|refine aI ?_|simp only[go_sem]
   refine vc_for (fun j=>⟨[(14,.int .i64 j),(3,.row 1 (E (9+j)).length),(13,.agg [.int .i64 a9,.int .i64 a10,.int .i64 a11]),(4,.int .i64 3),(9,.int .i64 3),(2,.nilS),(8,.agg [.int .i64 a0,.int .i64 a1,.int .i64 a2,.int .i64 a3,.int .i64 a4,.int .i64 a5,.int .i64 a6,.int .i64 a7,.int .i64 a8,.int .i64 a9,.int .i64 a10,.int .i64 a11])],[.box 91 [.int .i64 a0,.int .i64 a1,.int .i64 a2,.int .i64 a3,.int .i64 a4,.int .i64 a5,.int .i64 a6,.int .i64 a7,.int .i64 a8,.int .i64 a9,.int .i64 a10,.int .i64 a11] false,.row 148 3 ((E (9+j)).map encS) false,.box 89 [.int .i64 a9,.int .i64 a10,.int .i64 a11] false]⟩) 3 (fun _=>True) (by(first|exact wk_same (by simp only[go_sem,ic,Nat.add_zero])|(refine wk_drop ?_ ?_ ?_ ?_ ?_<;>simp only[go_sem,ic,Nat.add_zero]))) trivial ?_
   intro j hj _
   rcases Nat.lt_or_ge j 3 with hjl|hjg
   ·have hcj:j=0∨j=1∨j=2:=by omega
    rcases hcj with rfl|rfl|rfl
    ·have b:=bd 9
     by_cases h:0<a9
     ·obtain⟨q1,q2⟩:=y9 h
      repeat' first|refine sP ?_ ?_<;>intro hb<;>(try rw[hb])<;>(try simp only[bb]at hb)<;>(try simp only[within]at hb)<;>try simp only[go_sem,Nat.reduceAdd,h,length_map]|refine aI ?_|simp only[go_sem,Nat.reduceAdd,h,length_map]
      all_goals first|exact(by(first|exact wk_same (by simp only[go_sem,ic,q1,q2])|(refine wk_drop ?_ ?_ ?_ ?_ ?_<;>simp only[go_sem,ic,q1,q2])))|exact⟨⟨by omega,by omega⟩,by(first|exact wk_same (by simp only[go_sem,ic,q1,q2])|(refine wk_drop ?_ ?_ ?_ ?_ ?_<;>simp only[go_sem,ic,q1,q2]))⟩
     ·obtain⟨q1,q2⟩:=n9 h
      repeat' first|refine sP ?_ ?_<;>intro hb<;>(try rw[hb])<;>(try simp only[bb]at hb)<;>(try simp only[within]at hb)<;>try simp only[go_sem,Nat.reduceAdd,h,length_map]|refine aI ?_|simp only[go_sem,Nat.reduceAdd,h,length_map]
      all_goals first|exact(by(first|exact wk_same (by simp only[go_sem,ic,q1,q2])|(refine wk_drop ?_ ?_ ?_ ?_ ?_<;>simp only[go_sem,ic,q1,q2])))
    ·have b:=bd 10
     by_cases h:0<a10
     ·obtain⟨q1,q2⟩:=y10 h
      repeat' first|refine sP ?_ ?_<;>intro hb<;>(try rw[hb])<;>(try simp only[bb]at hb)<;>(try simp only[within]at hb)<;>try simp only[go_sem,Nat.reduceAdd,h,length_map]|refine aI ?_|simp only[go_sem,Nat.reduceAdd,h,length_map]
      all_goals first|exact(by(first|exact wk_same (by simp only[go_sem,ic,q1,q2])|(refine wk_drop ?_ ?_ ?_ ?_ ?_<;>simp only[go_sem,ic,q1,q2])))|exact⟨⟨by omega,by omega⟩,by(first|exact wk_same (by simp only[go_sem,ic,q1,q2])|(refine wk_drop ?_ ?_ ?_ ?_ ?_<;>simp only[go_sem,ic,q1,q2]))⟩
     ·obtain⟨q1,q2⟩:=n10 h
      repeat' first|refine sP ?_ ?_<;>intro hb<;>(try rw[hb])<;>(try simp only[bb]at hb)<;>(try simp only[within]at hb)<;>try simp only[go_sem,Nat.reduceAdd,h,length_map]|refine aI ?_|simp only[go_sem,Nat.reduceAdd,h,length_map]
      all_goals first|exact(by(first|exact wk_same (by simp only[go_sem,ic,q1,q2])|(refine wk_drop ?_ ?_ ?_ ?_ ?_<;>simp only[go_sem,ic,q1,q2])))
    ·have b:=bd 11
     by_cases h:0<a11
     ·obtain⟨q1,q2⟩:=y11 h
      repeat' first|refine sP ?_ ?_<;>intro hb<;>(try rw[hb])<;>(try simp only[bb]at hb)<;>(try simp only[within]at hb)<;>try simp only[go_sem,Nat.reduceAdd,h,length_map]|refine aI ?_|simp only[go_sem,Nat.reduceAdd,h,length_map]
      all_goals first|exact(by(first|exact wk_same (by simp only[go_sem,ic,q1,q2])|(refine wk_drop ?_ ?_ ?_ ?_ ?_<;>simp only[go_sem,ic,q1,q2])))|exact⟨⟨by omega,by omega⟩,by(first|exact wk_same (by simp only[go_sem,ic,q1,q2])|(refine wk_drop ?_ ?_ ?_ ?_ ?_<;>simp only[go_sem,ic,q1,q2]))⟩
     ·obtain⟨q1,q2⟩:=n11 h
      repeat' first|refine sP ?_ ?_<;>intro hb<;>(try rw[hb])<;>(try simp only[bb]at hb)<;>(try simp only[within]at hb)<;>try simp only[go_sem,Nat.reduceAdd,h,length_map]|refine aI ?_|simp only[go_sem,Nat.reduceAdd,h,length_map]
      all_goals first|exact(by(first|exact wk_same (by simp only[go_sem,ic,q1,q2])|(refine wk_drop ?_ ?_ ?_ ?_ ?_<;>simp only[go_sem,ic,q1,q2])))
   ·have:j=3:=by omega
    subst this
    repeat' first|refine sP ?_ ?_<;>intro hb<;>(try rw[hb])<;>(try simp only[bb]at hb)<;>(try simp only[within]at hb)<;>try simp only[go_sem]|refine aI ?_|simp only[go_sem]
    all_goals first|exact .base (by exact w0)
 ·have:i=4:=by omega
  subst this
  repeat' first|refine sP ?_ ?_<;>intro hb<;>(try rw[hb])<;>(try simp only[bb]at hb)<;>(try simp only[within]at hb)<;>try simp only[go_sem,length_map]|refine aI ?_|simp only[go_sem,length_map]
def sZ03f_f38(_:Nat):List (Nat×Nat):=[(0,0),(0,0),(0,0),(0,0),(0,0),(0,0),(0,0),(0,0),(0,0),(0,0),(0,0),(0,0),(0,0),(0,0),(0,0),(0,0),(0,0),(0,0),(0,0),(0,0),(0,0),(0,0),(0,0),(0,0),(0,0)]
def sZ03f_f40(_:Nat):List (Nat×Nat):=[(0,0),(0,0),(0,0),(0,0),(0,0),(0,0),(0,0),(0,0),(0,0)]
attribute [go_sem] sZ03f_f38 sZ03f_f40
theorem c38n:PC prog 38 [.nilS] (.bool true):=by
 refine pB Tryz.func38 fun hlen=>CV.run ?_
 simp only[Tryz.f38]
 simp only[go_sem,length_map,and_true,true_and]at hlen
 repeat' first|refine sP ?_ ?_<;>intro hb<;>(try rw[hb])<;>(try simp only[bb]at hb)<;>(try simp only[within]at hb)<;>try simp only[go_sem]|refine aI ?_|with_reducible refine dw sZ03f_f38 ?_|simp only[go_sem]
 refine vc_for (fun j=>⟨[(7,.int .i64 j),(6,.int .i64 0),(5,.nilS),(2,.bool false),(0,.nilS)],[]⟩) 0 (fun _=>True) (by exact w0) trivial ?_
 intro j hj _
 have:j=0:=by omega
 subst this
 repeat' first|refine sP ?_ ?_<;>intro hb<;>(try rw[hb])<;>(try simp only[bb]at hb)<;>(try simp only[within]at hb)<;>try simp only[go_sem]|refine aI ?_|with_reducible refine dw sZ03f_f38 ?_|simp only[go_sem]
theorem c40n:PC prog 40 [.nilS] (.agg (zer12.map I)):=by
 simp only[zer12,map_cons,map_nil,I]
 refine pB Tryz.func40 fun hlen=>CV.run ?_
 simp only[Tryz.f40]
 simp only[go_sem,length_map,and_true,true_and]at hlen
 repeat' first|refine sP ?_ ?_<;>intro hb<;>(try rw[hb])<;>(try simp only[bb]at hb)<;>(try simp only[within]at hb)<;>try simp only[go_sem]|refine aI ?_|with_reducible refine dw sZ03f_f40 ?_|simp only[go_sem]
 refine vc_for (fun j=>⟨[(7,.int .i64 j),(6,.int .i64 0),(5,.nilS),(2,.lp 0 0)],[.box 91 [.int .i64 0,.int .i64 0,.int .i64 0,.int .i64 0,.int .i64 0,.int .i64 0,.int .i64 0,.int .i64 0,.int .i64 0,.int .i64 0,.int .i64 0,.int .i64 0] false]⟩) 0 (fun _=>True) (by exact w0) trivial ?_
 intro j hj _
 have:j=0:=by omega
 subst this
 repeat' first|refine sP ?_ ?_<;>intro hb<;>(try rw[hb])<;>(try simp only[bb]at hb)<;>(try simp only[within]at hb)<;>try simp only[go_sem]|refine aI ?_|with_reducible refine dw sZ03f_f40 ?_|simp only[go_sem]
theorem c154(n:Int):PC prog 154 [.int .i64 n] (.bool false):=by
 refine pB Tryz.func154 fun hlen=>CV.run ?_
 simp only[Tryz.f154]
 simp only[go_sem,length_map,and_true,true_and]at hlen
 repeat' first|refine sP ?_ ?_<;>intro hb<;>(try rw[hb])<;>(try simp only[bb]at hb)<;>(try simp only[within]at hb)<;>try simp only[go_sem]|refine aI ?_|simp only[go_sem]
def cmp1(a b:Int):Int:=if a<b then-1 else if b<a then 1 else 0
theorem c80(a b:Int):PC prog 80 [.int .i64 a,.int .i64 b] (.int .i64 (cmp1 a b)):=by
 refine pB Tryz.func80 fun hlen=>CV.run ?_
 simp only[Tryz.f80]
 simp only[go_sem,length_map,and_true,true_and]at hlen
 repeat' first|refine sP ?_ ?_<;>intro hb<;>(try rw[hb])<;>(try simp only[bb]at hb)<;>(try simp only[within]at hb)<;>try simp only[go_sem]|refine aI ?_|with_reducible refine cq (c154 _) ?_|simp only[go_sem]
 all_goals (unfold cmp1;split<;>(try split)<;>first|rfl|omega)
def cmpI:List Int→List Int→Int
 |[],[]=>0
 |[],_::_=> -1
 |_::_,[]=>1
 |a::l,b::r=>if cmp1 a b=0 then cmpI l r else cmp1 a b
theorem c153(a b:List Int):PC prog 153 [lN a,lN b] (.int .i64 (cmpI a b)):=by
 refine pB Tryz.func153 fun hlen=>CV.run ?_
 simp only[Tryz.f153]
 simp only[go_sem,length_map,and_true,true_and]at hlen
 repeat' first|refine sP ?_ ?_<;>intro hb<;>(try rw[hb])<;>(try simp only[bb]at hb)<;>(try simp only[within]at hb)<;>try simp only[go_sem]|refine aI ?_|simp only[go_sem]
 refine vc_for (fun j=>⟨[(11,.int .i64 j),(10,.int .i64 a.length),(9,lN a),(0,lN a),(1,lN b),(4,.int .i64 0)],[]⟩) a.length (fun j=>j≤b.length∧cmpI (a.drop j) (b.drop j)=cmpI a b) (by exact w0) ⟨Nat.zero_le _,rfl⟩ ?_
 intro j hj ⟨x1,x2⟩
 rcases Nat.lt_or_ge j a.length with hlt|hge
 ·obtain⟨u,hu⟩:=get_of hlt
  have hlt':(j:Int)<a.length:=by omega
  rw[drop_cons' hu]at x2
  rcases Nat.lt_or_ge j b.length with hb|hb
  ·obtain⟨v,hv⟩:=get_of hb
   have hb1:(j:Int)<b.length:=by omega
   have hb2: ¬(b.length:Int)≤j:=by omega
   rw[drop_cons' hv,cmpI]at x2
   by_cases hc:cmp1 u v=0
   ·rw[if_pos hc]at x2
    have h80:=c80 u v
    rw[hc]at h80
    repeat' first|refine sP ?_ ?_<;>intro hb<;>(try rw[hb])<;>(try simp only[bb]at hb)<;>(try simp only[within]at hb)<;>try simp only[go_sem,hlt',hb1,hb2,hu,hv,encN]|refine aI ?_|with_reducible refine cq h80 ?_|simp only[go_sem,hlt',hb1,hb2,hu,hv,encN]
    exact⟨by exact w0,by omega,x2⟩
   ·rw[if_neg hc]at x2
    rw[←x2]
    repeat' first|refine sP ?_ ?_<;>intro hb<;>(try rw[hb])<;>(try simp only[bb]at hb)<;>(try simp only[within]at hb)<;>try simp only[go_sem,hlt',hb1,hb2,hu,hv,encN,hc]|refine aI ?_|with_reducible refine cq (c80 u v) ?_|simp only[go_sem,hlt',hb1,hb2,hu,hv,encN,hc]
  ·have hb2:(b.length:Int)≤j:=by omega
   rw[List.drop_eq_nil_of_le hb,cmpI]at x2
   rw[←x2]
   repeat' first|refine sP ?_ ?_<;>intro hb<;>(try rw[hb])<;>(try simp only[bb]at hb)<;>(try simp only[within]at hb)<;>try simp only[go_sem,hlt',hb2,hu,encN]|refine aI ?_|simp only[go_sem,hlt',hb2,hu,encN]
   all_goals omega
 ·have hge': ¬(j:Int)<a.length:=by omega
  have:j=a.length:=by omega
  subst this
  rw[List.drop_length]at x2
  repeat' first|refine sP ?_ ?_<;>intro hb<;>(try rw[hb])<;>(try simp only[bb]at hb)<;>(try simp only[within]at hb)<;>try simp only[go_sem,hge']|refine aI ?_|simp only[go_sem,hge']
  ·rw[drop_cons' (List.getElem?_eq_getElem (by omega))]at x2
   rw[←x2];rfl
  ·rw[List.drop_eq_nil_of_le (by omega)]at x2
   rw[←x2];rfl
def bitsP(s:Int):Nat→List Int
 |0=>[]
 |j+1=>bitsP s j++(if s / 2^j % 2=1 then [(j:Int)]else [])
theorem bitsP_len(s:Int): ∀n,(bitsP s n).length≤n
 |0=>Nat.le_refl _
 |n+1=>by have:=bitsP_len s n;rw[bitsP,List.length_append];split<;>simp<;>omega
theorem and1{x:Int}(h:0≤x):((x.toNat &&& 1:Nat):Int)=x % 2:=by
 rw[Nat.and_one_is_mod];omega
set_option maxHeartbeats 1000000 in
theorem c161(s:Int)(h0:0≤s)(h1:s<16):PC prog 161 [.int .u64 s] (lN (bitsP s 4)):=by
 refine pB Tryz.func161 fun hlen=>CV.run ?_
 simp only[Tryz.f161]
 simp only[go_sem,length_map,and_true,true_and]at hlen
 repeat' first|refine sP ?_ ?_<;>intro hb<;>(try rw[hb])<;>(try simp only[bb]at hb)<;>(try simp only[within]at hb)<;>try simp only[go_sem]|refine aI ?_|simp only[go_sem]
 refine vc_fw (fun j=>⟨[(5,.int .i64 j),(3,.row 0 (bitsP s j).length),(0,.int .u64 s)],[.row 3 1 ((bitsP s j).map encN) false]⟩) 4 (fun _=>True) (.nilE 3 3 1 rfl (by omega) (.base (by(first|exact wk_same (by simp only[go_sem,ic,bitsP,map_nil])|(refine wk_drop ?_ ?_ ?_ ?_ ?_<;>simp only[go_sem,ic,bitsP,map_nil]))))) trivial ?_
 intro j hj _
 rcases Nat.lt_or_ge j 4 with hlt|hge
 ·have hlt':(j:Int)<4:=by omega
  have hl:=bitsP_len s j
  have d0:0≤s / 2^j:=Int.ediv_nonneg h0 (Int.le_of_lt (Int.pow_pos (by omega)))
  have d1:s / 2^j≤s:=Int.ediv_le_self _ h0
  have u0:U64 (s / 2^j)=True:=eq_true (by unfold U64;omega)
  have u1:U64 1=True:=eq_true (by unfold U64;omega)
  have a1:=and1 d0
  by_cases hc:s / 2^j % 2=1
  ·have e:bitsP s (j+1)=bitsP s j++[(j:Int)]:=by rw[bitsP,if_pos hc]
   repeat' first|refine sP ?_ ?_<;>intro hb<;>(try rw[hb])<;>(try simp only[bb]at hb)<;>(try simp only[within]at hb)<;>try simp only[go_sem,hlt',u0,u1,a1,hc,length_map]|refine aI ?_|simp only[go_sem,hlt',u0,u1,a1,hc,length_map]
   exact .base (by(first|exact wk_same (by simp only[go_sem,ic,e,map_append,List.length_append,encN])|(refine wk_drop ?_ ?_ ?_ ?_ ?_<;>simp only[go_sem,ic,e,map_append,List.length_append,encN])))
  ·have e:bitsP s (j+1)=bitsP s j:=by rw[bitsP,if_neg hc,List.append_nil]
   repeat' first|refine sP ?_ ?_<;>intro hb<;>(try rw[hb])<;>(try simp only[bb]at hb)<;>(try simp only[within]at hb)<;>try simp only[go_sem,hlt',u0,u1,a1,hc,length_map]|refine aI ?_|simp only[go_sem,hlt',u0,u1,a1,hc,length_map]
   exact .base (by(first|exact wk_same (by simp only[go_sem,ic,e])|(refine wk_drop ?_ ?_ ?_ ?_ ?_<;>simp only[go_sem,ic,e])))
 ·have:j=4:=by omega
  subst this
  repeat' first|refine sP ?_ ?_<;>intro hb<;>(try rw[hb])<;>(try simp only[bb]at hb)<;>(try simp only[within]at hb)<;>try simp only[go_sem,length_map,frzE_self,pureN]|refine aI ?_|simp only[go_sem,length_map,frzE_self,pureN]
def sZ03i_f78(_:Nat):List (Nat×Nat):=[(0,0),(0,0),(0,0),(0,0),(0,0),(0,0),(0,0),(0,0)]
attribute [go_sem] sZ03i_f78
def rowS(s:List Int)(i:Nat):List Int:=(s.drop (3*i)).take 3
def befS(s t:List Int)(i:Nat):Nat→Int
 |0=>0
 |n+1=>if cmpI (rowS t i) (rowS s i)≠0 then cmpI (rowS t i) (rowS s i)else befS s t (i+1) n
set_option maxHeartbeats 4000000 in
theorem c78(s t:List Int)(hs:s.length=12)(ht:t.length=12):PC prog 78 [.agg (s.map I),.agg (t.map I)] (.int .i64 (befS s t 0 4)):=by
 obtain⟨a0,a1,a2,a3,a4,a5,a6,a7,a8,a9,a10,a11,rfl⟩:=shelf12 hs
 obtain⟨b0,b1,b2,b3,b4,b5,b6,b7,b8,b9,b10,b11,rfl⟩:=shelf12 ht
 simp only[map_cons,map_nil,I]
 have key: ∀i:Nat,befS [a0,a1,a2,a3,a4,a5,a6,a7,a8,a9,a10,a11] [b0,b1,b2,b3,b4,b5,b6,b7,b8,b9,b10,b11] i (4-i)=befS [a0,a1,a2,a3,a4,a5,a6,a7,a8,a9,a10,a11] [b0,b1,b2,b3,b4,b5,b6,b7,b8,b9,b10,b11] i (4-i):=fun _=>rfl
 refine pB Tryz.func78 fun hlen=>CV.run ?_
 simp only[Tryz.f78]
 simp only[go_sem,length_map,and_true,true_and]at hlen
 repeat' first|refine sP ?_ ?_<;>intro hb<;>(try rw[hb])<;>(try simp only[bb]at hb)<;>(try simp only[within]at hb)<;>try simp only[go_sem]|refine aI ?_|with_reducible refine dw sZ03i_f78 ?_|simp only[go_sem]
 refine vc_fw (fun i=>⟨[(7,.int .i64 i),(4,.int .i64 0),(2,.pp [.int .i64 a0,.int .i64 a1,.int .i64 a2,.int .i64 a3,.int .i64 a4,.int .i64 a5,.int .i64 a6,.int .i64 a7,.int .i64 a8,.int .i64 a9,.int .i64 a10,.int .i64 a11]),(3,.pp [.int .i64 b0,.int .i64 b1,.int .i64 b2,.int .i64 b3,.int .i64 b4,.int .i64 b5,.int .i64 b6,.int .i64 b7,.int .i64 b8,.int .i64 b9,.int .i64 b10,.int .i64 b11])],[.box 91 [.int .i64 a0,.int .i64 a1,.int .i64 a2,.int .i64 a3,.int .i64 a4,.int .i64 a5,.int .i64 a6,.int .i64 a7,.int .i64 a8,.int .i64 a9,.int .i64 a10,.int .i64 a11] true,.box 91 [.int .i64 b0,.int .i64 b1,.int .i64 b2,.int .i64 b3,.int .i64 b4,.int .i64 b5,.int .i64 b6,.int .i64 b7,.int .i64 b8,.int .i64 b9,.int .i64 b10,.int .i64 b11] true]⟩) 4 (fun i=>befS [a0,a1,a2,a3,a4,a5,a6,a7,a8,a9,a10,a11] [b0,b1,b2,b3,b4,b5,b6,b7,b8,b9,b10,b11] 0 4=befS [a0,a1,a2,a3,a4,a5,a6,a7,a8,a9,a10,a11] [b0,b1,b2,b3,b4,b5,b6,b7,b8,b9,b10,b11] i (4-i)) (.bub 0 rfl rfl (.bub 1 rfl rfl (.base (by exact w0)))) rfl ?_
 intro i hi hx
 rcases Nat.lt_or_ge i 4 with hlt|hge
 ·have hc:i=0∨i=1∨i=2∨i=3:=by omega
  rcases hc with rfl|rfl|rfl|rfl
  ·have h65:=c153 [b0,b1,b2] [a0,a1,a2]
   simp only[lN,map_cons,map_nil,encN]at h65
   have hb:befS [a0,a1,a2,a3,a4,a5,a6,a7,a8,a9,a10,a11] [b0,b1,b2,b3,b4,b5,b6,b7,b8,b9,b10,b11] 0 (4-0)=if cmpI [b0,b1,b2] [a0,a1,a2]≠0 then cmpI [b0,b1,b2] [a0,a1,a2]else befS [a0,a1,a2,a3,a4,a5,a6,a7,a8,a9,a10,a11] [b0,b1,b2,b3,b4,b5,b6,b7,b8,b9,b10,b11] 1 (4-1):=rfl
   by_cases h:cmpI [b0,b1,b2] [a0,a1,a2]=0
   ·rw[if_neg (by simp[h])]at hb
    repeat' first|refine sP ?_ ?_<;>intro hb<;>(try rw[hb])<;>(try simp only[bb]at hb)<;>(try simp only[within]at hb)<;>try simp only[go_sem,h,chunks]|refine aI ?_|with_reducible refine dw sZ03i_f78 ?_|with_reducible refine cq h65 ?_|simp only[go_sem,h,chunks]
    all_goals first|exact⟨.base (by exact w0),by rw[hx,hb]⟩
   ·rw[if_pos h]at hb
    repeat' first|refine sP ?_ ?_<;>intro hb<;>(try rw[hb])<;>(try simp only[bb]at hb)<;>(try simp only[within]at hb)<;>try simp only[go_sem,h,chunks]|refine aI ?_|with_reducible refine dw sZ03i_f78 ?_|with_reducible refine cq h65 ?_|simp only[go_sem,h,chunks]
    all_goals first|exact(by rw[hx,hb])
  ·have h65:=c153 [b3,b4,b5] [a3,a4,a5]
   simp only[lN,map_cons,map_nil,encN]at h65
   have hb:befS [a0,a1,a2,a3,a4,a5,a6,a7,a8,a9,a10,a11] [b0,b1,b2,b3,b4,b5,b6,b7,b8,b9,b10,b11] 1 (4-1)=if cmpI [b3,b4,b5] [a3,a4,a5]≠0 then cmpI [b3,b4,b5] [a3,a4,a5]else befS [a0,a1,a2,a3,a4,a5,a6,a7,a8,a9,a10,a11] [b0,b1,b2,b3,b4,b5,b6,b7,b8,b9,b10,b11] 2 (4-2):=rfl
   by_cases h:cmpI [b3,b4,b5] [a3,a4,a5]=0
   ·rw[if_neg (by simp[h])]at hb
    repeat' first|refine sP ?_ ?_<;>intro hb<;>(try rw[hb])<;>(try simp only[bb]at hb)<;>(try simp only[within]at hb)<;>try simp only[go_sem,h,chunks]|refine aI ?_|with_reducible refine dw sZ03i_f78 ?_|with_reducible refine cq h65 ?_|simp only[go_sem,h,chunks]
    all_goals first|exact⟨.base (by exact w0),by rw[hx,hb]⟩
   ·rw[if_pos h]at hb
    repeat' first|refine sP ?_ ?_<;>intro hb<;>(try rw[hb])<;>(try simp only[bb]at hb)<;>(try simp only[within]at hb)<;>try simp only[go_sem,h,chunks]|refine aI ?_|with_reducible refine dw sZ03i_f78 ?_|with_reducible refine cq h65 ?_|simp only[go_sem,h,chunks]
    all_goals first|exact(by rw[hx,hb])
  ·have h65:=c153 [b6,b7,b8] [a6,a7,a8]
   simp only[lN,map_cons,map_nil,encN]at h65
   have hb:befS [a0,a1,a2,a3,a4,a5,a6,a7,a8,a9,a10,a11] [b0,b1,b2,b3,b4,b5,b6,b7,b8,b9,b10,b11] 2 (4-2)=if cmpI [b6,b7,b8] [a6,a7,a8]≠0 then cmpI [b6,b7,b8] [a6,a7,a8]else befS [a0,a1,a2,a3,a4,a5,a6,a7,a8,a9,a10,a11] [b0,b1,b2,b3,b4,b5,b6,b7,b8,b9,b10,b11] 3 (4-3):=rfl
   by_cases h:cmpI [b6,b7,b8] [a6,a7,a8]=0
   ·rw[if_neg (by simp[h])]at hb
    repeat' first|refine sP ?_ ?_<;>intro hb<;>(try rw[hb])<;>(try simp only[bb]at hb)<;>(try simp only[within]at hb)<;>try simp only[go_sem,h,chunks]|refine aI ?_|with_reducible refine dw sZ03i_f78 ?_|with_reducible refine cq h65 ?_|simp only[go_sem,h,chunks]
    all_goals first|exact⟨.base (by exact w0),by rw[hx,hb]⟩
   ·rw[if_pos h]at hb
    repeat' first|refine sP ?_ ?_<;>intro hb<;>(try rw[hb])<;>(try simp only[bb]at hb)<;>(try simp only[within]at hb)<;>try simp only[go_sem,h,chunks]|refine aI ?_|with_reducible refine dw sZ03i_f78 ?_|with_reducible refine cq h65 ?_|simp only[go_sem,h,chunks]
    all_goals first|exact(by rw[hx,hb])
  ·have h65:=c153 [b9,b10,b11] [a9,a10,a11]
   simp only[lN,map_cons,map_nil,encN]at h65
   have hb:befS [a0,a1,a2,a3,a4,a5,a6,a7,a8,a9,a10,a11] [b0,b1,b2,b3,b4,b5,b6,b7,b8,b9,b10,b11] 3 (4-3)=if cmpI [b9,b10,b11] [a9,a10,a11]≠0 then cmpI [b9,b10,b11] [a9,a10,a11]else befS [a0,a1,a2,a3,a4,a5,a6,a7,a8,a9,a10,a11] [b0,b1,b2,b3,b4,b5,b6,b7,b8,b9,b10,b11] 4 (4-4):=rfl
   by_cases h:cmpI [b9,b10,b11] [a9,a10,a11]=0
   ·rw[if_neg (by simp[h])]at hb
    repeat' first|refine sP ?_ ?_<;>intro hb<;>(try rw[hb])<;>(try simp only[bb]at hb)<;>(try simp only[within]at hb)<;>try simp only[go_sem,h,chunks]|refine aI ?_|with_reducible refine dw sZ03i_f78 ?_|with_reducible refine cq h65 ?_|simp only[go_sem,h,chunks]
    all_goals first|exact⟨.base (by exact w0),by rw[hx,hb]⟩
   ·rw[if_pos h]at hb
    repeat' first|refine sP ?_ ?_<;>intro hb<;>(try rw[hb])<;>(try simp only[bb]at hb)<;>(try simp only[within]at hb)<;>try simp only[go_sem,h,chunks]|refine aI ?_|with_reducible refine dw sZ03i_f78 ?_|with_reducible refine cq h65 ?_|simp only[go_sem,h,chunks]
    all_goals first|exact(by rw[hx,hb])
 ·have:i=4:=by omega
  subst this
  repeat' first|refine sP ?_ ?_<;>intro hb<;>(try rw[hb])<;>(try simp only[bb]at hb)<;>(try simp only[within]at hb)<;>try simp only[go_sem]|refine aI ?_|with_reducible refine dw sZ03i_f78 ?_|simp only[go_sem]
  all_goals first|exact(by rw[hx];rfl)
def sZ04a_f32(_:Nat):List (Nat×Nat):=[(0,0),(0,0),(0,0),(0,0),(0,0),(0,0),(0,0),(0,0),(0,0),(0,0),(0,0),(0,0),(0,0),(0,0),(0,0),(0,0),(0,0),(0,0),(0,0),(0,0),(0,0),(0,0),(0,0),(0,0)]
def sZ04a_f11(_:Nat):List (Nat×Nat):=[(0,0),(0,0),(0,0),(0,0),(0,0),(0,0),(0,0),(0,0),(0,0),(0,0),(0,0)]
attribute [go_sem] sZ04a_f32 sZ04a_f11
structure Hall where
 hs:House
 bo:List Int
 es:List (List Int)
abbrev cH(a:Hall):List AV:=[.lst false 3 (a.hs.ms.map encM),.lst false 3 (a.hs.bs.map encB),lN a.hs.ts,.int .i64 a.hs.ch,lN a.bo,lP a.es]
abbrev hH(a:Hall):AV:= .agg (cH a)
theorem e900:((90:Int)=0)=False:=by simp
attribute [go_sem] e900
theorem c31(n lo hi:Int):PC prog 31 [.int .i64 n,.int .i64 lo,.int .i64 hi] (.bool (decide (within n lo hi))):=by
 refine pB Tryz.func31 fun hlen=>CV.run ?_
 simp only[Tryz.f31]
 simp only[go_sem,length_map,and_true,true_and]at hlen
 repeat' first|refine sP ?_ ?_<;>intro hb<;>(try rw[hb])<;>(try simp only[bb]at hb)<;>(try simp only[within]at hb)<;>try simp only[go_sem]|refine aI ?_|with_reducible refine cq (c73 _ _ _) ?_|simp only[go_sem]
theorem c79(n lo hi:Int):PC prog 79 [.int .i64 n,.int .i64 lo,.int .i64 hi] (.bool (decide (within n lo hi))):=by
 refine pB Tryz.func79 fun hlen=>CV.run ?_
 simp only[Tryz.f79]
 simp only[go_sem,length_map,and_true,true_and]at hlen
 repeat' first|refine sP ?_ ?_<;>intro hb<;>(try rw[hb])<;>(try simp only[bb]at hb)<;>(try simp only[within]at hb)<;>try simp only[go_sem]|refine aI ?_|simp only[go_sem]
 ·simp[within,hb]
 ·exact bf fun h=>absurd h.1 (by omega)
theorem c32(l:List Int)(lo hi:Int):PC prog 32 [lN l,.int .i64 lo,.int .i64 hi] (.bool (decide (rising l lo hi))):=by
 refine pB Tryz.func32 fun hlen=>CV.run ?_
 simp only[Tryz.f32]
 simp only[go_sem,length_map,and_true,true_and]at hlen
 (simp only[go_sem])
 refine vc_for (fun j=>⟨[(7,.int .i64 j),(6,.bool false),(0,lN l),(1,.int .i64 lo),(2,.int .i64 hi)],[]⟩) l.length (fun j=> ∀i,i<j→risingAt l lo hi i) (by exact w0) (fun i h=>by omega) ?_
 intro j hj hx
 rcases Nat.lt_or_ge j l.length with hlt|hge
 ·obtain⟨a,ha⟩:=get_of hlt
  obtain⟨b,hbb⟩:=get_of (l:=l) (j:=((j:Int)-1).toNat) (by omega)
  have hjb:0<j→l[j-1]? =some b:=fun h=>by rw[←hbb];congr 1;omega
  have hlt':(j:Int)<l.length:=by omega
  repeat' first|refine sP ?_ ?_<;>intro hb<;>(try rw[hb])<;>(try simp only[bb]at hb)<;>(try simp only[within]at hb)<;>try simp only[go_sem,hlt',ha,hbb,encN]|refine aI ?_|with_reducible refine dw sZ04a_f32 ?_|with_reducible refine cq (c73 _ _ _) ?_|simp only[go_sem,hlt',ha,hbb,encN]
  ·exact bf fun h=>hb (by obtain⟨a',h1,h2,_⟩:=h j hlt;rw[ha]at h1;cases h1;exact h2)
  ·exact bf fun h=>by
    obtain⟨a',h1,h2,h3⟩:=h j hlt;rw[ha]at h1;cases h1
    obtain⟨b',h4,h5⟩:=h3 (by omega)
    rw[hjb (by omega)]at h4;cases h4
    omega
  all_goals
   refine⟨by exact w0,fun i hi=>?_⟩
   rcases Nat.lt_or_ge i j with h|h
   ·exact hx i h
   ·have:i=j:=by omega
    subst this
    exact⟨a,ha,by assumption,fun h=>⟨b,hjb h,by omega⟩⟩
 ·have hge': ¬(j:Int)<l.length:=by omega
  repeat' first|refine sP ?_ ?_<;>intro hb<;>(try rw[hb])<;>(try simp only[bb]at hb)<;>(try simp only[within]at hb)<;>try simp only[go_sem,hge']|refine aI ?_|with_reducible refine dw sZ04a_f32 ?_|simp only[go_sem,hge']
  exact bt fun i hi=>hx i (by omega)
def okH(a:Hall):Prop:=okG a.hs∧a.bo.length=a.hs.ms.length∧a.es.length≤4∧(∀n,n∈a.bo→within n 0 2)∧(∀l,l∈a.es→rising l 0 3)∧ ∀b,b∈a.hs.bs→b.ed<a.es.length
noncomputable def checkH(a:Hall):Int:=if okH a then 0 else 90
theorem ckH0{a:Hall}(q:okH a):AV.int .i64 0= .int .i64 (checkH a):=by simp[checkH,q]
theorem ckH9{a:Hall}(q: ¬okH a):AV.int .i64 90= .int .i64 (checkH a):=by simp[checkH,q]
theorem checkH0{a:Hall}:(checkH a=0)=okH a:=by unfold checkH;split<;>simp_all
set_option maxHeartbeats 1000000 in
theorem c11(a:Hall):PC prog 11 [hH a] (.int .i64 (checkH a)):=by
 refine pB Tryz.func11 fun hlen=>CV.run ?_
 simp only[Tryz.f11]
 simp only[go_sem,length_map,and_true,true_and]at hlen
 repeat' first|refine sP ?_ ?_<;>intro hb<;>(try rw[hb])<;>(try simp only[bb]at hb)<;>(try simp only[within]at hb)<;>try simp only[go_sem,checkG0]|refine aI ?_|with_reducible refine dw sZ04a_f11 ?_|with_reducible refine cq (c17 a.hs) ?_|simp only[go_sem,checkG0]
 all_goals try exact ckH9 fun q=>by obtain⟨q1,q2,q3,_⟩:=q;first|exact absurd q1 (by assumption)|omega
 refine vc_for (fun j=>⟨[(3,.int .i64 j),(2,.int .i64 0),(1,.lp 0 0)],[.box 29 (cH a) false]⟩) a.bo.length (fun j=>allTo (fun _ n=>within n 0 2) a.bo j) (by exact w0) .zero ?_
 intro j hj hx
 rcases Nat.lt_or_ge j a.bo.length with hlt|hge
 ·obtain⟨m,hm⟩:=get_of hlt
  have hlt':(j:Int)<a.bo.length:=by omega
  repeat' first|refine sP ?_ ?_<;>intro hb<;>(try rw[hb])<;>(try simp only[bb]at hb)<;>(try simp only[within]at hb)<;>try simp only[go_sem,hlt',hm,encN]|refine aI ?_|with_reducible refine dw sZ04a_f11 ?_|with_reducible refine cq (c31 _ _ _) ?_|simp only[go_sem,hlt',hm,encN]
  ·exact ckH9 (a:=a) fun q=>hb (q.2.2.2.1 m (mem_of_getElem? hm))
  ·exact⟨by exact w0,hx.succ hm (by assumption)⟩
 have hmm:=hx.mem hge
 have hge': ¬(j:Int)<a.bo.length:=by omega
 repeat' first|refine sP ?_ ?_<;>intro hb<;>(try rw[hb])<;>(try simp only[bb]at hb)<;>(try simp only[within]at hb)<;>try simp only[go_sem,hge']|refine aI ?_|with_reducible refine dw sZ04a_f11 ?_|simp only[go_sem,hge']
 refine vc_for (fun j=>⟨[(4,.int .i64 j),(2,.int .i64 0),(1,.lp 0 0)],[.box 29 (cH a) false]⟩) a.es.length (fun j=>allTo (fun _ l=>rising l 0 3) a.es j) (by exact w0) .zero ?_
 intro k hk hy
 rcases Nat.lt_or_ge k a.es.length with hlt|hge2
 ·obtain⟨n,hn⟩:=get_of hlt
  have hlt':(k:Int)<a.es.length:=by omega
  repeat' first|refine sP ?_ ?_<;>intro hb<;>(try rw[hb])<;>(try simp only[bb]at hb)<;>(try simp only[within]at hb)<;>try simp only[go_sem,hlt',hn,encP]|refine aI ?_|with_reducible refine dw sZ04a_f11 ?_|with_reducible refine cq (c32 _ _ _) ?_|simp only[go_sem,hlt',hn,encP]
  ·exact ckH9 (a:=a) fun q=>hb (q.2.2.2.2.1 n (mem_of_getElem? hn))
  ·exact⟨by exact w0,hy.succ hn (by assumption)⟩
 have htt:=hy.mem hge2
 have hge2': ¬(k:Int)<a.es.length:=by omega
 repeat' first|refine sP ?_ ?_<;>intro hb<;>(try rw[hb])<;>(try simp only[bb]at hb)<;>(try simp only[within]at hb)<;>try simp only[go_sem,hge2']|refine aI ?_|with_reducible refine dw sZ04a_f11 ?_|simp only[go_sem,hge2']
 refine vc_for (fun j=>⟨[(5,.int .i64 j),(2,.int .i64 0),(1,.lp 0 0)],[.box 29 (cH a) false]⟩) a.hs.bs.length (fun j=>allTo (fun _ (b:Bun)=>b.ed<a.es.length) a.hs.bs j) (by exact w0) .zero ?_
 intro i hi hz
 rcases Nat.lt_or_ge i a.hs.bs.length with hlt|hge3
 ·obtain⟨b,hbb⟩:=get_of hlt
  have hlt':(i:Int)<a.hs.bs.length:=by omega
  repeat' first|refine sP ?_ ?_<;>intro hb<;>(try rw[hb])<;>(try simp only[bb]at hb)<;>(try simp only[within]at hb)<;>try simp only[go_sem,hlt',hbb,encB]|refine aI ?_|with_reducible refine dw sZ04a_f11 ?_|simp only[go_sem,hlt',hbb,encB]
  ·exact ckH9 (a:=a) fun q=>absurd (q.2.2.2.2.2 b (mem_of_getElem? hbb)) (by omega)
  ·exact⟨by exact w0,hz.succ hbb (by omega)⟩
 ·have hge3': ¬(i:Int)<a.hs.bs.length:=by omega
  repeat' first|refine sP ?_ ?_<;>intro hb<;>(try rw[hb])<;>(try simp only[bb]at hb)<;>(try simp only[within]at hb)<;>try simp only[go_sem,hge3']|refine aI ?_|with_reducible refine dw sZ04a_f11 ?_|simp only[go_sem,hge3']
  exact ckH0 ⟨by assumption,by omega,by omega,hmm,htt,hz.mem hge3⟩
theorem c149(n:Int):PC prog 149 [.int .i64 n] (.bool (decide (¬within n 0 2))):=by
 refine pB Tryz.func149 fun hlen=>CV.run ?_
 simp only[Tryz.f149]
 simp only[go_sem,length_map,and_true,true_and]at hlen
 repeat' first|refine sP ?_ ?_<;>intro hb<;>(try rw[hb])<;>(try simp only[bb]at hb)<;>(try simp only[within]at hb)<;>try simp only[go_sem]|refine aI ?_|with_reducible refine cq (c79 _ _ _) ?_|simp only[go_sem]
 all_goals exact bn (by simp)
theorem c150(a:Hall)(b:Bun):PC prog 150 [.agg (encB b),.pp (cH a)] (.bool (decide (¬b.ed<a.es.length))):=by
 simp only[encB]
 refine pB Tryz.func150 fun hlen=>CV.run ?_
 simp only[Tryz.f150]
 simp only[go_sem,length_map,and_true,true_and]at hlen
 repeat' first|refine sP ?_ ?_<;>intro hb<;>(try rw[hb])<;>(try simp only[bb]at hb)<;>(try simp only[within]at hb)<;>try simp only[go_sem]|refine aI ?_|simp only[go_sem]
 all_goals exact bd (by omega)
theorem rise_ge{l:List Int}{hi:Int}: ∀{i:Nat},(∀k,k<i→risingAt l 0 hi k)→ ∀k,k<i→ ∃a,l[k]? =some a∧(k:Int)≤a∧a≤hi
 |i,h,0,hk=>by
  obtain⟨a,h1,h2,_⟩:=h 0 hk
  exact⟨a,h1,h2.1,h2.2⟩
 |i,h,k+1,hk=>by
  obtain⟨a,h1,h2,h3⟩:=h (k+1) hk
  obtain⟨b,h4,h5⟩:=h3 (by omega)
  obtain⟨c,h6,h7,_⟩:=rise_ge h k (by omega)
  rw[Nat.add_sub_cancel,h6]at h4
  cases h4
  exact⟨a,h1,by omega,h2.2⟩
theorem rise_le{l:List Int}{i:Nat}(h: ∀k,k<i→risingAt l 0 3 k):i≤4:=by
 rcases Nat.lt_or_ge 4 i with h4|h4
 ·obtain⟨a,_,h1,h2⟩:=rise_ge h 4 h4
  omega
 ·exact h4
set_option maxHeartbeats 1000000 in
theorem c75(a:Hall):PC prog 75 [hH a] (.int .i64 (checkH a)):=by
 have h58:=W2.c93 a.bo 149 (fun n=> ¬within n 0 2) fun n _=>(c149 n).dec
 have h61:=c97 a.hs.bs 150 (cH a) rfl (fun b=> ¬b.ed<a.es.length) fun b _=>(c150 a b).dec
 refine pB Tryz.func75 fun hlen=>CV.run ?_
 simp only[Tryz.f75]
 simp only[go_sem,length_map,and_true,true_and]at hlen
 repeat' first|refine sP ?_ ?_<;>intro hb<;>(try rw[hb])<;>(try simp only[bb]at hb)<;>(try simp only[within]at hb)<;>try simp only[go_sem,checkG0]|refine aI ?_|with_reducible refine cq (c55 a.hs) ?_|with_reducible refine cq h58 ?_|with_reducible refine cq h61 ?_|simp only[go_sem,checkG0]
 all_goals try exact ckH9 fun q=>by obtain⟨q1,q2,q3,_⟩:=q;first|exact absurd q1 (by assumption)|omega
 ·obtain⟨n,h1,h2⟩:=hb
  exact ckH9 fun q=>h2 (q.2.2.2.1 n h1)
 have nb:=hb
 have hbo: ∀n,n∈a.bo→within n 0 2:=fun n hn=>Classical.byContradiction fun h=>nb ⟨n,hn,h⟩
 refine vc_for (fun j=>⟨[(33,.int .i64 j),(32,.int .i64 a.es.length),(31,lP a.es),(2,.int .i64 0),(1,.lp 0 0)],[.box 29 (cH a) false]⟩) a.es.length (fun j=>allTo (fun _ l=>rising l 0 3) a.es j) (by exact w0) .zero ?_
 intro j hj hx
 rcases Nat.lt_or_ge j a.es.length with hlt|hge
 ·obtain⟨l,hl⟩:=get_of hlt
  have hlt':(j:Int)<a.es.length:=by omega
  repeat' first|refine sP ?_ ?_<;>intro hb<;>(try rw[hb])<;>(try simp only[bb]at hb)<;>(try simp only[within]at hb)<;>try simp only[go_sem,hlt',hl,encP]|refine aI ?_|simp only[go_sem,hlt',hl,encP]
  refine vc_for (fun i=>⟨[(39,.int .i64 i),(38,.int .i64 l.length),(37,lN l),(4,lN l),(33,.int .i64 j),(32,.int .i64 a.es.length),(31,lP a.es),(2,.int .i64 0),(1,.lp 0 0)],[.box 29 (cH a) false]⟩) l.length (fun i=> ∀k,k<i→risingAt l 0 3 k) (by exact w0) (fun i h=>by omega) ?_
  intro i hi hy
  rcases Nat.lt_or_ge i l.length with hlt2|hge2
  ·obtain⟨x,hxx⟩:=get_of hlt2
   obtain⟨b,hbb⟩:=get_of (l:=l) (j:=((i:Int)-1).toNat) (by omega)
   have hjb:0<i→l[i-1]? =some b:=fun h=>by rw[←hbb];congr 1;omega
   have hlt2':(i:Int)<l.length:=by omega
   have hi4:=rise_le hy
   repeat' first|refine sP ?_ ?_<;>intro hb<;>(try rw[hb])<;>(try simp only[bb]at hb)<;>(try simp only[within]at hb)<;>try simp only[go_sem,hlt2',hxx,hbb,encN]|refine aI ?_|with_reducible refine cq (c79 _ _ _) ?_|simp only[go_sem,hlt2',hxx,hbb,encN]
   ·exact ckH9 (a:=a) fun q=>hb (by obtain⟨a',h1,h2,_⟩:=q.2.2.2.2.1 l (mem_of_getElem? hl) i hlt2;rw[hxx]at h1;cases h1;exact h2)
   ·exact ckH9 (a:=a) fun q=>by
     obtain⟨a',h1,h2,h3⟩:=q.2.2.2.2.1 l (mem_of_getElem? hl) i hlt2;rw[hxx]at h1;cases h1
     obtain⟨b',h4,h5⟩:=h3 (by omega)
     rw[hjb (by omega)]at h4;cases h4
     omega
   all_goals
    refine⟨by exact w0,fun k hk=>?_⟩
    rcases Nat.lt_or_ge k i with h|h
    ·exact hy k h
    ·have:k=i:=by omega
     subst this
     exact⟨x,hxx,by assumption,fun h=>⟨b,hjb h,by omega⟩⟩
  ·have hge2': ¬(i:Int)<l.length:=by omega
   repeat' first|refine sP ?_ ?_<;>intro hb<;>(try rw[hb])<;>(try simp only[bb]at hb)<;>(try simp only[within]at hb)<;>try simp only[go_sem,hge2']|refine aI ?_|simp only[go_sem,hge2']
   exact⟨by exact w0,hx.succ hl fun k hk=>hy k (by omega)⟩
 have hee:=hx.mem hge
 have hge': ¬(j:Int)<a.es.length:=by omega
 repeat' first|refine sP ?_ ?_<;>intro hb<;>(try rw[hb])<;>(try simp only[bb]at hb)<;>(try simp only[within]at hb)<;>try simp only[go_sem,hge']|refine aI ?_|with_reducible refine cq h61 ?_|simp only[go_sem,hge']
 ·obtain⟨b,h1,h2⟩:=hb
  exact ckH9 fun q=>h2 (q.2.2.2.2.2 b h1)
 ·exact ckH0 ⟨by assumption,by omega,by omega,hbo,hee,fun b h1=>Classical.byContradiction fun h=>hb ⟨b,h1,h⟩⟩
def longP(p:List (List Int)):Prop:=40<p.length∨ ∃l,l∈p∧40<l.length
def hugeH(a:Hall):Prop:=hugeG a.hs∨40<a.bo.length∨longP a.es
def farH(a:Hall):Prop:=hugeH a∨3<a.hs.bs.length∧okH a
theorem c72(p:List (List Int)):PC prog 72 [lP p] (.bool (decide (longP p))):=by
 refine pB Tryz.func72 fun hlen=>CV.run ?_
 simp only[Tryz.f72]
 simp only[go_sem,length_map,and_true,true_and]at hlen
 repeat' first|refine sP ?_ ?_<;>intro hb<;>(try rw[hb])<;>(try simp only[bb]at hb)<;>(try simp only[within]at hb)<;>try simp only[go_sem]|refine aI ?_|simp only[go_sem]
 ·exact bt (.inl (by omega))
 refine vc_for (fun j=>⟨[(3,.int .i64 j),(2,.bool false),(0,lP p)],[]⟩) p.length (fun j=>allTo (fun _ (l:List Int)=> ¬40<l.length) p j) (by exact w0) .zero ?_
 intro j hj hx
 rcases Nat.lt_or_ge j p.length with hlt|hge
 ·obtain⟨l,hl⟩:=get_of hlt
  have hlt':(j:Int)<p.length:=by omega
  repeat' first|refine sP ?_ ?_<;>intro hb<;>(try rw[hb])<;>(try simp only[bb]at hb)<;>(try simp only[within]at hb)<;>try simp only[go_sem,hlt',hl,encP]|refine aI ?_|simp only[go_sem,hlt',hl,encP]
  ·exact bt (.inr ⟨l,mem_of_getElem? hl,by omega⟩)
  ·exact⟨by exact w0,hx.succ hl (by omega)⟩
 ·have hge': ¬(j:Int)<p.length:=by omega
  repeat' first|refine sP ?_ ?_<;>intro hb<;>(try rw[hb])<;>(try simp only[bb]at hb)<;>(try simp only[within]at hb)<;>try simp only[go_sem,hge']|refine aI ?_|simp only[go_sem,hge']
  exact bf fun q=>q.elim (by omega) fun⟨l,h1,h2⟩=>hx.mem hge l h1 h2
theorem c30(a:Hall):PC prog 30 [hH a] (.bool (decide (hugeH a))):=by
 refine pB Tryz.func30 fun hlen=>CV.run ?_
 simp only[Tryz.f30]
 simp only[go_sem,length_map,and_true,true_and]at hlen
 repeat' first|refine sP ?_ ?_<;>intro hb<;>(try rw[hb])<;>(try simp only[bb]at hb)<;>(try simp only[within]at hb)<;>try simp only[go_sem]|refine aI ?_|with_reducible refine cq (c43 a.hs) ?_|with_reducible refine cq (c72 a.es) ?_|simp only[go_sem]
 all_goals first|exact bt (p:=hugeH a) (.inl (by assumption))|exact bt (p:=hugeH a) (.inr (.inl (by omega)))|exact bd (p:=longP a.es) (by unfold hugeH;constructor<;>intro q<;>first|exact .inr (.inr q)|(rcases q with q|q|q<;>first|exact q|contradiction|omega))
theorem c10(a:Hall):PC prog 10 [hH a] (.bool (decide (farH a))):=by
 refine pB Tryz.func10 fun hlen=>CV.run ?_
 simp only[Tryz.f10]
 simp only[go_sem,length_map,and_true,true_and]at hlen
 repeat' first|refine sP ?_ ?_<;>intro hb<;>(try rw[hb])<;>(try simp only[bb]at hb)<;>(try simp only[within]at hb)<;>try simp only[go_sem,checkH0]|refine aI ?_|with_reducible refine cq (c30 a) ?_|with_reducible refine cq (c11 a) ?_|simp only[go_sem,checkH0]
 all_goals first|exact bt (p:=farH a) (.inl (by assumption))|exact bf (p:=farH a) (fun q=>q.elim (by assumption) (by omega))|exact bd (by unfold farH;constructor<;>intro q<;>first|exact .inr ⟨by omega,q⟩|(rcases q with q|q<;>first|exact q.2|contradiction))
def bs(f:Nat→Bool):Nat→Nat
 |0=>0
 |i+1=>bs f i+(if f i then 2^i else 0)
theorem bs_lt(f:Nat→Bool): ∀n,bs f n<2^n
 |0=>by simp[bs]
 |n+1=>by
  have:=bs_lt f n
  rw[bs,Nat.pow_succ]
  split<;>omega
theorem bs_bit{f:Nat→Bool}{b:Nat}(hb:b<5):bs f 5 / 2^b % 2=if f b then 1 else 0:=by
 have hc:b=0∨b=1∨b=2∨b=3∨b=4:=by omega
 simp only[bs]
 cases h0:f 0<;>cases h1:f 1<;>cases h2:f 2<;>cases h3:f 3<;>cases h4:f 4<;>
  (rcases hc with rfl|rfl|rfl|rfl|rfl<;>simp[h0,h1,h2,h3,h4])
theorem bs_add{f g:Nat→Bool}{b:Nat}(hf:f b=false)(hg: ∀i,g i=(f i||decide (i=b))): ∀n,b<n→bs g n=bs f n+2^b
 |0,h=>by omega
 |n+1,h=>by
  have e0:=hg n
  rcases Nat.lt_or_ge b n with h1|h1
  ·have:=bs_add hf hg n h1
   rw[bs,bs,this,e0,decide_eq_false (by omega),Bool.or_false];omega
  ·have hbn:b=n:=by omega
   subst hbn
   have same: ∀m,m≤b→bs g m=bs f m:=by
    intro m
    induction m with
    |zero=>intro _;rfl
    |succ m ih=>intro hm;rw[bs,bs,ih (by omega),hg m,decide_eq_false (by omega),Bool.or_false]
   rw[bs,bs,same b (Nat.le_refl _),e0,hf];simp
theorem bit_or: ∀u,u<32→ ∀b,b<5→u / 2^b % 2=0→u ||| 2^b=u+2^b:=by decide
theorem bit_an: ∀u,u<32→ ∀b,b<5→u / 2^b % 2=0→(u+2^b) &&& (18446744073709551615-2^b)=u:=by decide
def cnt(f:Nat→Bool):Nat→Nat
 |0=>0
 |i+1=>cnt f i+(if f i then 0 else 1)
theorem cnt_add{f g:Nat→Bool}{b:Nat}(hf:f b=false)(hg: ∀i,g i=(f i||decide (i=b))): ∀n,b<n→cnt f n=cnt g n+1
 |0,h=>by omega
 |n+1,h=>by
  have e0:=hg n
  rcases Nat.lt_or_ge b n with h1|h1
  ·have:=cnt_add hf hg n h1
   rw[cnt,cnt,this,e0,decide_eq_false (by omega),Bool.or_false];omega
  ·have hbn:b=n:=by omega
   subst hbn
   have same: ∀m,m≤b→cnt g m=cnt f m:=by
    intro m
    induction m with
    |zero=>intro _;rfl
    |succ m ih=>intro hm;rw[cnt,cnt,ih (by omega),hg m,decide_eq_false (by omega),Bool.or_false]
   rw[cnt,cnt,same b (Nat.le_refl _),e0,hf];simp
theorem cnt_le(f:Nat→Bool): ∀n,cnt f n≤n
 |0=>Nat.le_refl _
 |n+1=>by have:=cnt_le f n;rw[cnt];split<;>omega
def usd(p:List (List Int))(i:Nat):Bool:=p.any fun l=>l.contains (i:Int)
def addB(p:List (List Int))(m:Nat)(b:Nat):List (List Int):=p.set m (p.getD m []++[(b:Int)])
theorem usd_iff{p:List (List Int)}{i:Nat}:usd p i=true↔ ∃l,l∈p∧(i:Int)∈l:=by
 simp[usd,List.any_eq_true]
theorem usd_add{p:List (List Int)}{m b:Nat}(hm:m<p.length)(i:Nat):usd (addB p m b) i=(usd p i||decide (i=b)):=by
 rw[Bool.eq_iff_iff,Bool.or_eq_true,usd_iff,usd_iff,decide_eq_true_eq]
 have hg:p[m]? =some (p.getD m []):=by simp[List.getElem?_eq_getElem hm]
 constructor
 ·rintro⟨l,h1,h2⟩
  rcases List.mem_or_eq_of_mem_set h1 with h1|rfl
  ·exact .inl ⟨l,h1,h2⟩
  ·rcases List.mem_append.1 h2 with h2|h2
   ·exact .inl ⟨_,mem_of_getElem? hg,h2⟩
   ·exact .inr (by have:=List.mem_singleton.1 h2;omega)
 ·rintro(⟨l,h1,h2⟩|rfl)
  ·obtain⟨j,hj⟩:=List.mem_iff_getElem?.1 h1
   by_cases e:m=j
   ·subst e
    rw[hg]at hj;cases hj
    exact⟨_,mem_of_getElem? (by unfold addB;rw[List.getElem?_set_self hm]),List.mem_append.2 (.inl h2)⟩
   ·exact⟨l,mem_of_getElem? (by unfold addB;rw[List.getElem?_set_ne e];exact hj),h2⟩
  ·exact⟨_,mem_of_getElem? (by unfold addB;rw[List.getElem?_set_self hm]),List.mem_append.2 (.inr (by simp))⟩
def lens:List (List Int)→Nat
 |[]=>0
 |l::p=>l.length+lens p
theorem lens_add{b:Nat}: ∀{p:List (List Int)} {m:Nat},m<p.length→lens (addB p m b)=lens p+1
 |[],m,h=>by simp at h
 |l::p,0,h=>by simp[lens,addB];omega
 |l::p,m+1,h=>by
  have:=lens_add (b:=b) (p:=p) (m:=m) (by simpa using h)
  have e:addB (l::p) (m+1) b=l::addB p m b:=by simp[addB]
  rw[e,lens,lens,this];omega
theorem len_le{l:List Int}: ∀{p:List (List Int)},l∈p→l.length≤lens p
 |[],h=>by simp at h
 |x::p,h=>by
  rw[lens]
  rcases List.mem_cons.1 h with rfl|h
  ·omega
  ·have:=len_le h;omega
def plansF(k:Nat)(stop:Int)(nb:Nat):Nat→Nat→List (List Int)→List (List (List Int))
 |0,_,_=>[]
 |f+1,m,p=>if m=k then [p]else plansF k stop nb f (m+1) p++(if(m:Int)=stop then []else
   ((List.range nb).filter fun b=> !usd p b).flatMap fun b=>plansF k stop nb f m (addB p m b))
def runC{σ α:Type}(st:σ→α→σ×Bool):σ→List α→σ×Bool
 |s,[]=>(s,true)
 |s,a::l=>if(st s a).2 then runC st (st s a).1 l else((st s a).1,false)
theorem runC_app{σ α:Type}{st:σ→α→σ×Bool}: ∀(l r:List α) (s:σ),runC st s (l++r)=if(runC st s l).2 then runC st (runC st s l).1 r else((runC st s l).1,false)
 |[],r,s=>by simp[runC]
 |a::l,r,s=>by
  simp only[List.cons_append,runC]
  split
  ·exact runC_app l r _
  ·simp
theorem runC_one{σ α:Type}{st:σ→α→σ×Bool}{s:σ}{a:α}:runC st s [a]=st s a:=by
 simp only[runC]
 split
 ·rename_i h;rw[←h]
 ·rename_i h
  have:(st s a).2=false:=by simpa using h
  rw[←this]
structure okQ(k nb:Nat)(p:List (List Int)):Prop where
 len:p.length=k
 rng: ∀l,l∈p→ ∀b,b∈l→0≤b∧b<nb
 sum:lens p+cnt (usd p) nb=nb
theorem okQ.add{k nb:Nat}{p:List (List Int)}(h:okQ k nb p){m b:Nat}(hm:m<k)(hb:b<nb)(hu:usd p b=false):okQ k nb (addB p m b):=by
 have hmp:m<p.length:=by rw[h.len];exact hm
 refine⟨by simp[addB,h.len],fun l hl x hx=>?_,?_⟩
 ·rcases List.mem_or_eq_of_mem_set hl with hl|rfl
  ·exact h.rng l hl x hx
  ·rcases List.mem_append.1 hx with hx|hx
   ·exact h.rng _ (mem_of_getElem? (by simp[List.getElem?_eq_getElem hmp]:p[m]? =some (p.getD m []))) x hx
   ·have:=List.mem_singleton.1 hx;omega
 ·have h1:=cnt_add hu (usd_add (b:=b) hmp) nb hb
  have h2:=lens_add (b:=b) hmp
  have:=h.sum
  omega
theorem okQ.short{k nb:Nat}{p:List (List Int)}(h:okQ k nb p){l:List Int}(hl:l∈p):l.length≤nb:=by
 have:=len_le hl;have:=h.sum;omega
def adds(k:Nat)(stop:Int)(nb f m:Nat)(p:List (List Int))(j:Nat):List (List (List Int)):=((List.range j).filter fun b=> !usd p b).flatMap fun b=>plansF k stop nb f m (addB p m b)
theorem adds_yes{k:Nat}{stop:Int}{nb f m:Nat}{p:List (List Int)}{j:Nat}(h:usd p j=true):adds k stop nb f m p (j+1)=adds k stop nb f m p j:=by
 unfold adds;rw[List.range_succ,List.filter_append];simp[h]
theorem adds_no{k:Nat}{stop:Int}{nb f m:Nat}{p:List (List Int)}{j:Nat}(h:usd p j=false):adds k stop nb f m p (j+1)=adds k stop nb f m p j++plansF k stop nb f m (addB p m j):=by
 unfold adds;rw[List.range_succ,List.filter_append];simp[h]
end Go.Proofs.YtoadkchhimojlaaGreatDoor
