/- Contracts of functions of the given program, without a condition beyond those that each theorem states; they lead to the given statement. -/
import Derived.Test.YtoadkchhimojlaaGreatDoorLAc
import Derived.Test.YtoadkchhimojlaaGreatDoorFlC
set_option linter.unusedSectionVars false
set_option linter.unusedSimpArgs false
set_option linter.unusedVariables false
set_option maxRecDepth 100000
open List(append_nil length_map map_nil)
open Go.Proofs.Tryz(prog)
namespace Go.Proofs.YtoadkchhimojlaaGreatDoor
open Go Go.Fl
open Classical
def sumTo(s:List Int)(k:Nat):Int:=(s.take k).sum
theorem shelf12{s:List Int}(h:s.length=12): ∃a b c d e f g i j k l m:Int,s=[a,b,c,d,e,f,g,i,j,k,l,m]:=by
 match s,h with
 |[a,b,c,d,e,f,g,i,j,k,l,m],_=>exact⟨a,b,c,d,e,f,g,i,j,k,l,m,rfl⟩
theorem sum_step{s:List Int}{k:Nat}{x:Int}(h:s[k]? =some x):sumTo s (k+1)=sumTo s k+x:=by
 unfold sumTo;rw[List.take_add_one,h,List.sum_append];simp
theorem sum_bd{s:List Int}(hb: ∀n,n∈s→0≤n∧n≤1000): ∀k:Nat,0≤sumTo s k∧sumTo s k≤1000*k
 |0=>by simp[sumTo]
 |k+1=>by
  have ih:=sum_bd hb k
  cases h:s[k]? with
  |some x=>
   have:=hb x (List.mem_of_getElem? h)
   rw[sum_step h];omega
  |none=>
   have e:sumTo s (k+1)=sumTo s k:=by unfold sumTo;rw[List.take_add_one,h];simp
   rw[e];omega
set_option maxHeartbeats 8000000 in
theorem c74(s:List Int)(hs:s.length=12)(hb: ∀n,n∈s→0≤n∧n≤1000):PC prog 74 [.agg (s.map I)] (.int .i64 s.sum):=by
 have bd:=sum_bd hb
 have eall:sumTo s 12=s.sum:=by unfold sumTo;rw[List.take_of_length_le (by omega)]
 have st:=fun k x (h:s[k]? =some x)=>sum_step h
 obtain⟨a0,a1,a2,a3,a4,a5,a6,a7,a8,a9,a10,a11,rfl⟩:=shelf12 hs
 simp only[List.map_cons,map_nil,I]
 clear hs hb
 have e0:sumTo [a0,a1,a2,a3,a4,a5,a6,a7,a8,a9,a10,a11] 0=0:=rfl
 have s0:sumTo [a0,a1,a2,a3,a4,a5,a6,a7,a8,a9,a10,a11] 1=sumTo [a0,a1,a2,a3,a4,a5,a6,a7,a8,a9,a10,a11] 0+a0:=st 0 _ rfl
 have s1:sumTo [a0,a1,a2,a3,a4,a5,a6,a7,a8,a9,a10,a11] 2=sumTo [a0,a1,a2,a3,a4,a5,a6,a7,a8,a9,a10,a11] 1+a1:=st 1 _ rfl
 have s2:sumTo [a0,a1,a2,a3,a4,a5,a6,a7,a8,a9,a10,a11] 3=sumTo [a0,a1,a2,a3,a4,a5,a6,a7,a8,a9,a10,a11] 2+a2:=st 2 _ rfl
 have s3:sumTo [a0,a1,a2,a3,a4,a5,a6,a7,a8,a9,a10,a11] 4=sumTo [a0,a1,a2,a3,a4,a5,a6,a7,a8,a9,a10,a11] 3+a3:=st 3 _ rfl
 have s4:sumTo [a0,a1,a2,a3,a4,a5,a6,a7,a8,a9,a10,a11] 5=sumTo [a0,a1,a2,a3,a4,a5,a6,a7,a8,a9,a10,a11] 4+a4:=st 4 _ rfl
 have s5:sumTo [a0,a1,a2,a3,a4,a5,a6,a7,a8,a9,a10,a11] 6=sumTo [a0,a1,a2,a3,a4,a5,a6,a7,a8,a9,a10,a11] 5+a5:=st 5 _ rfl
 have s6:sumTo [a0,a1,a2,a3,a4,a5,a6,a7,a8,a9,a10,a11] 7=sumTo [a0,a1,a2,a3,a4,a5,a6,a7,a8,a9,a10,a11] 6+a6:=st 6 _ rfl
 have s7:sumTo [a0,a1,a2,a3,a4,a5,a6,a7,a8,a9,a10,a11] 8=sumTo [a0,a1,a2,a3,a4,a5,a6,a7,a8,a9,a10,a11] 7+a7:=st 7 _ rfl
 have s8:sumTo [a0,a1,a2,a3,a4,a5,a6,a7,a8,a9,a10,a11] 9=sumTo [a0,a1,a2,a3,a4,a5,a6,a7,a8,a9,a10,a11] 8+a8:=st 8 _ rfl
 have s9:sumTo [a0,a1,a2,a3,a4,a5,a6,a7,a8,a9,a10,a11] 10=sumTo [a0,a1,a2,a3,a4,a5,a6,a7,a8,a9,a10,a11] 9+a9:=st 9 _ rfl
 have s10:sumTo [a0,a1,a2,a3,a4,a5,a6,a7,a8,a9,a10,a11] 11=sumTo [a0,a1,a2,a3,a4,a5,a6,a7,a8,a9,a10,a11] 10+a10:=st 10 _ rfl
 have s11:sumTo [a0,a1,a2,a3,a4,a5,a6,a7,a8,a9,a10,a11] 12=sumTo [a0,a1,a2,a3,a4,a5,a6,a7,a8,a9,a10,a11] 11+a11:=st 11 _ rfl
 generalize hS:sumTo [a0,a1,a2,a3,a4,a5,a6,a7,a8,a9,a10,a11]=S at*
 refine pB Tryz.func74 fun hlen=>CV.run ?_
 simp only[Tryz.f74]
 simp only[go_sem,length_map,and_true,true_and]at hlen
 repeat' first|refine sP ?_ ?_<;>intro hb<;>(try rw[hb])<;>(try simp only[bb]at hb)<;>(try simp only[within]at hb)<;>try simp only[go_sem]|refine aI ?_|simp only[go_sem]
 refine vc_for (fun i=>⟨[(9,.int .i64 i),(3,.int .i64 (S (3*i))),(2,.int .i64 0),(8,.agg [.int .i64 a0,.int .i64 a1,.int .i64 a2,.int .i64 a3,.int .i64 a4,.int .i64 a5,.int .i64 a6,.int .i64 a7,.int .i64 a8,.int .i64 a9,.int .i64 a10,.int .i64 a11])],[.box 91 [.int .i64 a0,.int .i64 a1,.int .i64 a2,.int .i64 a3,.int .i64 a4,.int .i64 a5,.int .i64 a6,.int .i64 a7,.int .i64 a8,.int .i64 a9,.int .i64 a10,.int .i64 a11] false]⟩) 4 (fun _=>True) (by(first|exact wk_same (by simp only[go_sem,ic,e0])|(refine wk_drop ?_ ?_ ?_ ?_ ?_<;>simp only[go_sem,ic,e0]))) trivial ?_
 intro i hi _
 rcases Nat.lt_or_ge i 4 with hlt|hge
 ·have hc:i=0∨i=1∨i=2∨i=3:=by omega
  rcases hc with rfl|rfl|rfl|rfl
  ·repeat' first|refine sP ?_ ?_<;>intro hb<;>(try rw[hb])<;>(try simp only[bb]at hb)<;>(try simp only[within]at hb)<;>try simp only[go_sem]|refine aI ?_|simp only[go_sem]
   refine vc_for (fun j=>⟨[(13,.int .i64 j),(3,.int .i64 (S (0+j))),(12,.agg [.int .i64 a0,.int .i64 a1,.int .i64 a2]),(9,.int .i64 0),(2,.int .i64 0),(8,.agg [.int .i64 a0,.int .i64 a1,.int .i64 a2,.int .i64 a3,.int .i64 a4,.int .i64 a5,.int .i64 a6,.int .i64 a7,.int .i64 a8,.int .i64 a9,.int .i64 a10,.int .i64 a11])],[.box 91 [.int .i64 a0,.int .i64 a1,.int .i64 a2,.int .i64 a3,.int .i64 a4,.int .i64 a5,.int .i64 a6,.int .i64 a7,.int .i64 a8,.int .i64 a9,.int .i64 a10,.int .i64 a11] false,.box 89 [.int .i64 a0,.int .i64 a1,.int .i64 a2] false]⟩) 3 (fun _=>True) (by(first|exact wk_same (by simp only[go_sem,ic,Nat.add_zero])|(refine wk_drop ?_ ?_ ?_ ?_ ?_<;>simp only[go_sem,ic,Nat.add_zero]))) trivial ?_
   intro j hj _
   rcases Nat.lt_or_ge j 3 with hjl|hjg
   ·have hcj:j=0∨j=1∨j=2:=by omega
    rcases hcj with rfl|rfl|rfl
    ·have I1:I64 (S 0+a0)=True:=eq_true (by have:=bd 1;have:=s0;unfold I64;omega)
     repeat' first|refine sP ?_ ?_<;>intro hb<;>(try rw[hb])<;>(try simp only[bb]at hb)<;>(try simp only[within]at hb)<;>try simp only[go_sem,I1,Nat.reduceAdd]|refine aI ?_|simp only[go_sem,I1,Nat.reduceAdd]
     all_goals first|exact(by(first|exact wk_same (by simp only[go_sem,ic,s0])|(refine wk_drop ?_ ?_ ?_ ?_ ?_<;>simp only[go_sem,ic,s0])))
    ·have I1:I64 (S 1+a1)=True:=eq_true (by have:=bd 2;have:=s1;unfold I64;omega)
     repeat' first|refine sP ?_ ?_<;>intro hb<;>(try rw[hb])<;>(try simp only[bb]at hb)<;>(try simp only[within]at hb)<;>try simp only[go_sem,I1,Nat.reduceAdd]|refine aI ?_|simp only[go_sem,I1,Nat.reduceAdd]
     all_goals first|exact(by(first|exact wk_same (by simp only[go_sem,ic,s1])|(refine wk_drop ?_ ?_ ?_ ?_ ?_<;>simp only[go_sem,ic,s1])))
    ·have I1:I64 (S 2+a2)=True:=eq_true (by have:=bd 3;have:=s2;unfold I64;omega)
     repeat' first|refine sP ?_ ?_<;>intro hb<;>(try rw[hb])<;>(try simp only[bb]at hb)<;>(try simp only[within]at hb)<;>try simp only[go_sem,I1,Nat.reduceAdd]|refine aI ?_|simp only[go_sem,I1,Nat.reduceAdd]
     all_goals first|exact(by(first|exact wk_same (by simp only[go_sem,ic,s2])|(refine wk_drop ?_ ?_ ?_ ?_ ?_<;>simp only[go_sem,ic,s2])))
   ·have:j=3:=by omega
    subst this
    repeat' first|refine sP ?_ ?_<;>intro hb<;>(try rw[hb])<;>(try simp only[bb]at hb)<;>(try simp only[within]at hb)<;>try simp only[go_sem]|refine aI ?_|simp only[go_sem]
    all_goals first|exact(by exact w0)
  ·repeat' first|refine sP ?_ ?_<;>intro hb<;>(try rw[hb])<;>(try simp only[bb]at hb)<;>(try simp only[within]at hb)<;>try simp only[go_sem]|refine aI ?_|simp only[go_sem]
   refine vc_for (fun j=>⟨[(13,.int .i64 j),(3,.int .i64 (S (3+j))),(12,.agg [.int .i64 a3,.int .i64 a4,.int .i64 a5]),(9,.int .i64 1),(2,.int .i64 0),(8,.agg [.int .i64 a0,.int .i64 a1,.int .i64 a2,.int .i64 a3,.int .i64 a4,.int .i64 a5,.int .i64 a6,.int .i64 a7,.int .i64 a8,.int .i64 a9,.int .i64 a10,.int .i64 a11])],[.box 91 [.int .i64 a0,.int .i64 a1,.int .i64 a2,.int .i64 a3,.int .i64 a4,.int .i64 a5,.int .i64 a6,.int .i64 a7,.int .i64 a8,.int .i64 a9,.int .i64 a10,.int .i64 a11] false,.box 89 [.int .i64 a3,.int .i64 a4,.int .i64 a5] false]⟩) 3 (fun _=>True) (by(first|exact wk_same (by simp only[go_sem,ic,Nat.add_zero])|(refine wk_drop ?_ ?_ ?_ ?_ ?_<;>simp only[go_sem,ic,Nat.add_zero]))) trivial ?_
   intro j hj _
   rcases Nat.lt_or_ge j 3 with hjl|hjg
   ·have hcj:j=0∨j=1∨j=2:=by omega
    rcases hcj with rfl|rfl|rfl
    ·have I1:I64 (S 3+a3)=True:=eq_true (by have:=bd 4;have:=s3;unfold I64;omega)
     repeat' first|refine sP ?_ ?_<;>intro hb<;>(try rw[hb])<;>(try simp only[bb]at hb)<;>(try simp only[within]at hb)<;>try simp only[go_sem,I1,Nat.reduceAdd]|refine aI ?_|simp only[go_sem,I1,Nat.reduceAdd]
     all_goals first|exact(by(first|exact wk_same (by simp only[go_sem,ic,s3])|(refine wk_drop ?_ ?_ ?_ ?_ ?_<;>simp only[go_sem,ic,s3])))
    ·have I1:I64 (S 4+a4)=True:=eq_true (by have:=bd 5;have:=s4;unfold I64;omega)
     repeat' first|refine sP ?_ ?_<;>intro hb<;>(try rw[hb])<;>(try simp only[bb]at hb)<;>(try simp only[within]at hb)<;>try simp only[go_sem,I1,Nat.reduceAdd]|refine aI ?_|simp only[go_sem,I1,Nat.reduceAdd]
     all_goals first|exact(by(first|exact wk_same (by simp only[go_sem,ic,s4])|(refine wk_drop ?_ ?_ ?_ ?_ ?_<;>simp only[go_sem,ic,s4])))
    ·have I1:I64 (S 5+a5)=True:=eq_true (by have:=bd 6;have:=s5;unfold I64;omega)
     repeat' first|refine sP ?_ ?_<;>intro hb<;>(try rw[hb])<;>(try simp only[bb]at hb)<;>(try simp only[within]at hb)<;>try simp only[go_sem,I1,Nat.reduceAdd]|refine aI ?_|simp only[go_sem,I1,Nat.reduceAdd]
     all_goals first|exact(by(first|exact wk_same (by simp only[go_sem,ic,s5])|(refine wk_drop ?_ ?_ ?_ ?_ ?_<;>simp only[go_sem,ic,s5])))
   ·have:j=3:=by omega
    subst this
    repeat' first|refine sP ?_ ?_<;>intro hb<;>(try rw[hb])<;>(try simp only[bb]at hb)<;>(try simp only[within]at hb)<;>try simp only[go_sem]|refine aI ?_|simp only[go_sem]
    all_goals first|exact(by exact w0)
  ·repeat' first|refine sP ?_ ?_<;>intro hb<;>(try rw[hb])<;>(try simp only[bb]at hb)<;>(try simp only[within]at hb)<;>try simp only[go_sem]|refine aI ?_|simp only[go_sem]
   refine vc_for (fun j=>⟨[(13,.int .i64 j),(3,.int .i64 (S (6+j))),(12,.agg [.int .i64 a6,.int .i64 a7,.int .i64 a8]),(9,.int .i64 2),(2,.int .i64 0),(8,.agg [.int .i64 a0,.int .i64 a1,.int .i64 a2,.int .i64 a3,.int .i64 a4,.int .i64 a5,.int .i64 a6,.int .i64 a7,.int .i64 a8,.int .i64 a9,.int .i64 a10,.int .i64 a11])],[.box 91 [.int .i64 a0,.int .i64 a1,.int .i64 a2,.int .i64 a3,.int .i64 a4,.int .i64 a5,.int .i64 a6,.int .i64 a7,.int .i64 a8,.int .i64 a9,.int .i64 a10,.int .i64 a11] false,.box 89 [.int .i64 a6,.int .i64 a7,.int .i64 a8] false]⟩) 3 (fun _=>True) (by(first|exact wk_same (by simp only[go_sem,ic,Nat.add_zero])|(refine wk_drop ?_ ?_ ?_ ?_ ?_<;>simp only[go_sem,ic,Nat.add_zero]))) trivial ?_
   intro j hj _
   rcases Nat.lt_or_ge j 3 with hjl|hjg
   ·have hcj:j=0∨j=1∨j=2:=by omega
    rcases hcj with rfl|rfl|rfl
    ·have I1:I64 (S 6+a6)=True:=eq_true (by have:=bd 7;have:=s6;unfold I64;omega)
     repeat' first|refine sP ?_ ?_<;>intro hb<;>(try rw[hb])<;>(try simp only[bb]at hb)<;>(try simp only[within]at hb)<;>try simp only[go_sem,I1,Nat.reduceAdd]|refine aI ?_|simp only[go_sem,I1,Nat.reduceAdd]
     all_goals first|exact(by(first|exact wk_same (by simp only[go_sem,ic,s6])|(refine wk_drop ?_ ?_ ?_ ?_ ?_<;>simp only[go_sem,ic,s6])))
    ·have I1:I64 (S 7+a7)=True:=eq_true (by have:=bd 8;have:=s7;unfold I64;omega)
     repeat' first|refine sP ?_ ?_<;>intro hb<;>(try rw[hb])<;>(try simp only[bb]at hb)<;>(try simp only[within]at hb)<;>try simp only[go_sem,I1,Nat.reduceAdd]|refine aI ?_|simp only[go_sem,I1,Nat.reduceAdd]
     all_goals first|exact(by(first|exact wk_same (by simp only[go_sem,ic,s7])|(refine wk_drop ?_ ?_ ?_ ?_ ?_<;>simp only[go_sem,ic,s7])))
    ·have I1:I64 (S 8+a8)=True:=eq_true (by have:=bd 9;have:=s8;unfold I64;omega)
     repeat' first|refine sP ?_ ?_<;>intro hb<;>(try rw[hb])<;>(try simp only[bb]at hb)<;>(try simp only[within]at hb)<;>try simp only[go_sem,I1,Nat.reduceAdd]|refine aI ?_|simp only[go_sem,I1,Nat.reduceAdd]
     all_goals first|exact(by(first|exact wk_same (by simp only[go_sem,ic,s8])|(refine wk_drop ?_ ?_ ?_ ?_ ?_<;>simp only[go_sem,ic,s8])))
   ·have:j=3:=by omega
    subst this
    repeat' first|refine sP ?_ ?_<;>intro hb<;>(try rw[hb])<;>(try simp only[bb]at hb)<;>(try simp only[within]at hb)<;>try simp only[go_sem]|refine aI ?_|simp only[go_sem]
    all_goals first|exact(by exact w0)
  ·repeat' first|refine sP ?_ ?_<;>intro hb<;>(try rw[hb])<;>(try simp only[bb]at hb)<;>(try simp only[within]at hb)<;>try simp only[go_sem]|refine aI ?_|simp only[go_sem]
   refine vc_for (fun j=>⟨[(13,.int .i64 j),(3,.int .i64 (S (9+j))),(12,.agg [.int .i64 a9,.int .i64 a10,.int .i64 a11]),(9,.int .i64 3),(2,.int .i64 0),(8,.agg [.int .i64 a0,.int .i64 a1,.int .i64 a2,.int .i64 a3,.int .i64 a4,.int .i64 a5,.int .i64 a6,.int .i64 a7,.int .i64 a8,.int .i64 a9,.int .i64 a10,.int .i64 a11])],[.box 91 [.int .i64 a0,.int .i64 a1,.int .i64 a2,.int .i64 a3,.int .i64 a4,.int .i64 a5,.int .i64 a6,.int .i64 a7,.int .i64 a8,.int .i64 a9,.int .i64 a10,.int .i64 a11] false,.box 89 [.int .i64 a9,.int .i64 a10,.int .i64 a11] false]⟩) 3 (fun _=>True) (by(first|exact wk_same (by simp only[go_sem,ic,Nat.add_zero])|(refine wk_drop ?_ ?_ ?_ ?_ ?_<;>simp only[go_sem,ic,Nat.add_zero]))) trivial ?_
   intro j hj _
   rcases Nat.lt_or_ge j 3 with hjl|hjg
   ·have hcj:j=0∨j=1∨j=2:=by omega
    rcases hcj with rfl|rfl|rfl
    ·have I1:I64 (S 9+a9)=True:=eq_true (by have:=bd 10;have:=s9;unfold I64;omega)
     repeat' first|refine sP ?_ ?_<;>intro hb<;>(try rw[hb])<;>(try simp only[bb]at hb)<;>(try simp only[within]at hb)<;>try simp only[go_sem,I1,Nat.reduceAdd]|refine aI ?_|simp only[go_sem,I1,Nat.reduceAdd]
     all_goals first|exact(by(first|exact wk_same (by simp only[go_sem,ic,s9])|(refine wk_drop ?_ ?_ ?_ ?_ ?_<;>simp only[go_sem,ic,s9])))
    ·have I1:I64 (S 10+a10)=True:=eq_true (by have:=bd 11;have:=s10;unfold I64;omega)
     repeat' first|refine sP ?_ ?_<;>intro hb<;>(try rw[hb])<;>(try simp only[bb]at hb)<;>(try simp only[within]at hb)<;>try simp only[go_sem,I1,Nat.reduceAdd]|refine aI ?_|simp only[go_sem,I1,Nat.reduceAdd]
     all_goals first|exact(by(first|exact wk_same (by simp only[go_sem,ic,s10])|(refine wk_drop ?_ ?_ ?_ ?_ ?_<;>simp only[go_sem,ic,s10])))
    ·have I1:I64 (S 11+a11)=True:=eq_true (by have:=bd 12;have:=s11;unfold I64;omega)
     repeat' first|refine sP ?_ ?_<;>intro hb<;>(try rw[hb])<;>(try simp only[bb]at hb)<;>(try simp only[within]at hb)<;>try simp only[go_sem,I1,Nat.reduceAdd]|refine aI ?_|simp only[go_sem,I1,Nat.reduceAdd]
     all_goals first|exact(by(first|exact wk_same (by simp only[go_sem,ic,s11])|(refine wk_drop ?_ ?_ ?_ ?_ ?_<;>simp only[go_sem,ic,s11])))
   ·have:j=3:=by omega
    subst this
    repeat' first|refine sP ?_ ?_<;>intro hb<;>(try rw[hb])<;>(try simp only[bb]at hb)<;>(try simp only[within]at hb)<;>try simp only[go_sem]|refine aI ?_|simp only[go_sem]
    all_goals first|exact(by exact w0)
 ·have:i=4:=by omega
  subst this
  repeat' first|refine sP ?_ ?_<;>intro hb<;>(try rw[hb])<;>(try simp only[bb]at hb)<;>(try simp only[within]at hb)<;>try simp only[go_sem]|refine aI ?_|simp only[go_sem]
  all_goals first|exact congrArg _ eall
def sZ03b_f151(_:Nat):List (Nat×Nat):=[(0,1),(0,1),(0,0),(0,0),(0,0),(0,0),(0,0),(0,0),(0,0),(0,0),(0,0),(0,0),(0,0),(0,0),(0,1),(1,1),(0,0)]
attribute [go_sem] sZ03b_f151
def zipS(φ:Int→Int→Int)(s t:List Int):List Int:=List.zipWith φ s t
def cellE(z:List Int)(k:Nat):List AV:=(z.take k).map (AV.int .i64)++List.replicate (12-k) (.int .i64 0)
set_option maxHeartbeats 16000000 in
theorem c151(g:Nat)(φ:Int→Int→Int)(s t:List Int)(hs:s.length=12)(ht:t.length=12)(hg: ∀a b,a∈s→b∈t→PC prog g [.int .i64 a,.int .i64 b] (.int .i64 (φ a b))):PC prog 151 [.agg (s.map I),.agg (t.map I),.fn g []] (.agg ((zipS φ s t).map I)):=by
 obtain⟨a0,a1,a2,a3,a4,a5,a6,a7,a8,a9,a10,a11,rfl⟩:=shelf12 hs
 obtain⟨b0,b1,b2,b3,b4,b5,b6,b7,b8,b9,b10,b11,rfl⟩:=shelf12 ht
 have g0:=hg a0 b0 (by simp) (by simp)
 have g1:=hg a1 b1 (by simp) (by simp)
 have g2:=hg a2 b2 (by simp) (by simp)
 have g3:=hg a3 b3 (by simp) (by simp)
 have g4:=hg a4 b4 (by simp) (by simp)
 have g5:=hg a5 b5 (by simp) (by simp)
 have g6:=hg a6 b6 (by simp) (by simp)
 have g7:=hg a7 b7 (by simp) (by simp)
 have g8:=hg a8 b8 (by simp) (by simp)
 have g9:=hg a9 b9 (by simp) (by simp)
 have g10:=hg a10 b10 (by simp) (by simp)
 have g11:=hg a11 b11 (by simp) (by simp)
 simp only[zipS,List.zipWith_cons_cons,List.zipWith_nil_right,List.map_cons,map_nil,I]
 clear hs ht hg
 have e0:cellE [φ a0 b0,φ a1 b1,φ a2 b2,φ a3 b3,φ a4 b4,φ a5 b5,φ a6 b6,φ a7 b7,φ a8 b8,φ a9 b9,φ a10 b10,φ a11 b11] 0=[.int .i64 0,.int .i64 0,.int .i64 0,.int .i64 0,.int .i64 0,.int .i64 0,.int .i64 0,.int .i64 0,.int .i64 0,.int .i64 0,.int .i64 0,.int .i64 0]:=rfl
 have e1:cellE [φ a0 b0,φ a1 b1,φ a2 b2,φ a3 b3,φ a4 b4,φ a5 b5,φ a6 b6,φ a7 b7,φ a8 b8,φ a9 b9,φ a10 b10,φ a11 b11] 1=[.int .i64 (φ a0 b0),.int .i64 0,.int .i64 0,.int .i64 0,.int .i64 0,.int .i64 0,.int .i64 0,.int .i64 0,.int .i64 0,.int .i64 0,.int .i64 0,.int .i64 0]:=rfl
 have e2:cellE [φ a0 b0,φ a1 b1,φ a2 b2,φ a3 b3,φ a4 b4,φ a5 b5,φ a6 b6,φ a7 b7,φ a8 b8,φ a9 b9,φ a10 b10,φ a11 b11] 2=[.int .i64 (φ a0 b0),.int .i64 (φ a1 b1),.int .i64 0,.int .i64 0,.int .i64 0,.int .i64 0,.int .i64 0,.int .i64 0,.int .i64 0,.int .i64 0,.int .i64 0,.int .i64 0]:=rfl
 have e3:cellE [φ a0 b0,φ a1 b1,φ a2 b2,φ a3 b3,φ a4 b4,φ a5 b5,φ a6 b6,φ a7 b7,φ a8 b8,φ a9 b9,φ a10 b10,φ a11 b11] 3=[.int .i64 (φ a0 b0),.int .i64 (φ a1 b1),.int .i64 (φ a2 b2),.int .i64 0,.int .i64 0,.int .i64 0,.int .i64 0,.int .i64 0,.int .i64 0,.int .i64 0,.int .i64 0,.int .i64 0]:=rfl
 have e4:cellE [φ a0 b0,φ a1 b1,φ a2 b2,φ a3 b3,φ a4 b4,φ a5 b5,φ a6 b6,φ a7 b7,φ a8 b8,φ a9 b9,φ a10 b10,φ a11 b11] 4=[.int .i64 (φ a0 b0),.int .i64 (φ a1 b1),.int .i64 (φ a2 b2),.int .i64 (φ a3 b3),.int .i64 0,.int .i64 0,.int .i64 0,.int .i64 0,.int .i64 0,.int .i64 0,.int .i64 0,.int .i64 0]:=rfl
 have e5:cellE [φ a0 b0,φ a1 b1,φ a2 b2,φ a3 b3,φ a4 b4,φ a5 b5,φ a6 b6,φ a7 b7,φ a8 b8,φ a9 b9,φ a10 b10,φ a11 b11] 5=[.int .i64 (φ a0 b0),.int .i64 (φ a1 b1),.int .i64 (φ a2 b2),.int .i64 (φ a3 b3),.int .i64 (φ a4 b4),.int .i64 0,.int .i64 0,.int .i64 0,.int .i64 0,.int .i64 0,.int .i64 0,.int .i64 0]:=rfl
 have e6:cellE [φ a0 b0,φ a1 b1,φ a2 b2,φ a3 b3,φ a4 b4,φ a5 b5,φ a6 b6,φ a7 b7,φ a8 b8,φ a9 b9,φ a10 b10,φ a11 b11] 6=[.int .i64 (φ a0 b0),.int .i64 (φ a1 b1),.int .i64 (φ a2 b2),.int .i64 (φ a3 b3),.int .i64 (φ a4 b4),.int .i64 (φ a5 b5),.int .i64 0,.int .i64 0,.int .i64 0,.int .i64 0,.int .i64 0,.int .i64 0]:=rfl
 have e7:cellE [φ a0 b0,φ a1 b1,φ a2 b2,φ a3 b3,φ a4 b4,φ a5 b5,φ a6 b6,φ a7 b7,φ a8 b8,φ a9 b9,φ a10 b10,φ a11 b11] 7=[.int .i64 (φ a0 b0),.int .i64 (φ a1 b1),.int .i64 (φ a2 b2),.int .i64 (φ a3 b3),.int .i64 (φ a4 b4),.int .i64 (φ a5 b5),.int .i64 (φ a6 b6),.int .i64 0,.int .i64 0,.int .i64 0,.int .i64 0,.int .i64 0]:=rfl
 have e8:cellE [φ a0 b0,φ a1 b1,φ a2 b2,φ a3 b3,φ a4 b4,φ a5 b5,φ a6 b6,φ a7 b7,φ a8 b8,φ a9 b9,φ a10 b10,φ a11 b11] 8=[.int .i64 (φ a0 b0),.int .i64 (φ a1 b1),.int .i64 (φ a2 b2),.int .i64 (φ a3 b3),.int .i64 (φ a4 b4),.int .i64 (φ a5 b5),.int .i64 (φ a6 b6),.int .i64 (φ a7 b7),.int .i64 0,.int .i64 0,.int .i64 0,.int .i64 0]:=rfl
 have e9:cellE [φ a0 b0,φ a1 b1,φ a2 b2,φ a3 b3,φ a4 b4,φ a5 b5,φ a6 b6,φ a7 b7,φ a8 b8,φ a9 b9,φ a10 b10,φ a11 b11] 9=[.int .i64 (φ a0 b0),.int .i64 (φ a1 b1),.int .i64 (φ a2 b2),.int .i64 (φ a3 b3),.int .i64 (φ a4 b4),.int .i64 (φ a5 b5),.int .i64 (φ a6 b6),.int .i64 (φ a7 b7),.int .i64 (φ a8 b8),.int .i64 0,.int .i64 0,.int .i64 0]:=rfl
 have e10:cellE [φ a0 b0,φ a1 b1,φ a2 b2,φ a3 b3,φ a4 b4,φ a5 b5,φ a6 b6,φ a7 b7,φ a8 b8,φ a9 b9,φ a10 b10,φ a11 b11] 10=[.int .i64 (φ a0 b0),.int .i64 (φ a1 b1),.int .i64 (φ a2 b2),.int .i64 (φ a3 b3),.int .i64 (φ a4 b4),.int .i64 (φ a5 b5),.int .i64 (φ a6 b6),.int .i64 (φ a7 b7),.int .i64 (φ a8 b8),.int .i64 (φ a9 b9),.int .i64 0,.int .i64 0]:=rfl
 have e11:cellE [φ a0 b0,φ a1 b1,φ a2 b2,φ a3 b3,φ a4 b4,φ a5 b5,φ a6 b6,φ a7 b7,φ a8 b8,φ a9 b9,φ a10 b10,φ a11 b11] 11=[.int .i64 (φ a0 b0),.int .i64 (φ a1 b1),.int .i64 (φ a2 b2),.int .i64 (φ a3 b3),.int .i64 (φ a4 b4),.int .i64 (φ a5 b5),.int .i64 (φ a6 b6),.int .i64 (φ a7 b7),.int .i64 (φ a8 b8),.int .i64 (φ a9 b9),.int .i64 (φ a10 b10),.int .i64 0]:=rfl
 have e12:cellE [φ a0 b0,φ a1 b1,φ a2 b2,φ a3 b3,φ a4 b4,φ a5 b5,φ a6 b6,φ a7 b7,φ a8 b8,φ a9 b9,φ a10 b10,φ a11 b11] 12=[.int .i64 (φ a0 b0),.int .i64 (φ a1 b1),.int .i64 (φ a2 b2),.int .i64 (φ a3 b3),.int .i64 (φ a4 b4),.int .i64 (φ a5 b5),.int .i64 (φ a6 b6),.int .i64 (φ a7 b7),.int .i64 (φ a8 b8),.int .i64 (φ a9 b9),.int .i64 (φ a10 b10),.int .i64 (φ a11 b11)]:=rfl
 generalize cellE [φ a0 b0,φ a1 b1,φ a2 b2,φ a3 b3,φ a4 b4,φ a5 b5,φ a6 b6,φ a7 b7,φ a8 b8,φ a9 b9,φ a10 b10,φ a11 b11]=E at*
 refine pB Tryz.func151 fun hlen=>CV.run ?_
 simp only[Tryz.f151]
 simp only[go_sem,length_map,and_true,true_and]at hlen
 repeat' first|refine sP ?_ ?_<;>intro hb<;>(try rw[hb])<;>(try simp only[bb]at hb)<;>(try simp only[within]at hb)<;>try simp only[go_sem]|refine aI ?_|with_reducible refine dw sZ03b_f151 ?_|simp only[go_sem]
 refine vc_for (fun i=>⟨[(9,.int .i64 i),(2,.fn g []),(3,.lp 0 0),(4,.lp 1 0),(6,.lp 2 0)],[.box 91 [.int .i64 a0,.int .i64 a1,.int .i64 a2,.int .i64 a3,.int .i64 a4,.int .i64 a5,.int .i64 a6,.int .i64 a7,.int .i64 a8,.int .i64 a9,.int .i64 a10,.int .i64 a11] false,.box 91 [.int .i64 b0,.int .i64 b1,.int .i64 b2,.int .i64 b3,.int .i64 b4,.int .i64 b5,.int .i64 b6,.int .i64 b7,.int .i64 b8,.int .i64 b9,.int .i64 b10,.int .i64 b11] false,.box 91 (E (3*i)) false]⟩) 4 (fun _=>True) (by(first|exact wk_same (by simp only[go_sem,ic,e0])|(refine wk_drop ?_ ?_ ?_ ?_ ?_<;>simp only[go_sem,ic,e0]))) trivial ?_
 intro i hi _
 rcases Nat.lt_or_ge i 4 with hlt|hge
 ·have hc:i=0∨i=1∨i=2∨i=3:=by omega
  rcases hc with rfl|rfl|rfl|rfl
  ·repeat' first|refine sP ?_ ?_<;>intro hb<;>(try rw[hb])<;>(try simp only[bb]at hb)<;>(try simp only[within]at hb)<;>try simp only[go_sem]|refine aI ?_|with_reducible refine dw sZ03b_f151 ?_|simp only[go_sem]
   refine vc_for (fun j=>⟨[(12,.int .i64 j),(7,.int .i64 0),(9,.int .i64 0),(2,.fn g []),(3,.lp 0 0),(4,.lp 1 0),(6,.lp 2 0)],[.box 91 [.int .i64 a0,.int .i64 a1,.int .i64 a2,.int .i64 a3,.int .i64 a4,.int .i64 a5,.int .i64 a6,.int .i64 a7,.int .i64 a8,.int .i64 a9,.int .i64 a10,.int .i64 a11] false,.box 91 [.int .i64 b0,.int .i64 b1,.int .i64 b2,.int .i64 b3,.int .i64 b4,.int .i64 b5,.int .i64 b6,.int .i64 b7,.int .i64 b8,.int .i64 b9,.int .i64 b10,.int .i64 b11] false,.box 91 (E (0+j)) false]⟩) 3 (fun _=>True) (by(first|exact wk_same (by simp only[go_sem,ic,Nat.add_zero,e0])|(refine wk_drop ?_ ?_ ?_ ?_ ?_<;>simp only[go_sem,ic,Nat.add_zero,e0]))) trivial ?_
   intro j hj _
   rcases Nat.lt_or_ge j 3 with hjl|hjg
   ·have hcj:j=0∨j=1∨j=2:=by omega
    rcases hcj with rfl|rfl|rfl
    ·repeat' first|refine sP ?_ ?_<;>intro hb<;>(try rw[hb])<;>(try simp only[bb]at hb)<;>(try simp only[within]at hb)<;>try simp only[go_sem,Nat.reduceAdd,e0]|refine aI ?_|with_reducible refine dw sZ03b_f151 ?_|with_reducible refine cq g0 ?_|simp only[go_sem,Nat.reduceAdd,e0]
     all_goals first|exact(by(first|exact wk_same (by simp only[go_sem,ic,e1])|(refine wk_drop ?_ ?_ ?_ ?_ ?_<;>simp only[go_sem,ic,e1])))
    ·repeat' first|refine sP ?_ ?_<;>intro hb<;>(try rw[hb])<;>(try simp only[bb]at hb)<;>(try simp only[within]at hb)<;>try simp only[go_sem,Nat.reduceAdd,e1]|refine aI ?_|with_reducible refine dw sZ03b_f151 ?_|with_reducible refine cq g1 ?_|simp only[go_sem,Nat.reduceAdd,e1]
     all_goals first|exact(by(first|exact wk_same (by simp only[go_sem,ic,e2])|(refine wk_drop ?_ ?_ ?_ ?_ ?_<;>simp only[go_sem,ic,e2])))
    ·repeat' first|refine sP ?_ ?_<;>intro hb<;>(try rw[hb])<;>(try simp only[bb]at hb)<;>(try simp only[within]at hb)<;>try simp only[go_sem,Nat.reduceAdd,e2]|refine aI ?_|with_reducible refine dw sZ03b_f151 ?_|with_reducible refine cq g2 ?_|simp only[go_sem,Nat.reduceAdd,e2]
     all_goals first|exact(by(first|exact wk_same (by simp only[go_sem,ic,e3])|(refine wk_drop ?_ ?_ ?_ ?_ ?_<;>simp only[go_sem,ic,e3])))
   ·have:j=3:=by omega
    subst this
    repeat' first|refine sP ?_ ?_<;>intro hb<;>(try rw[hb])<;>(try simp only[bb]at hb)<;>(try simp only[within]at hb)<;>try simp only[go_sem]|refine aI ?_|with_reducible refine dw sZ03b_f151 ?_|simp only[go_sem]
    all_goals first|exact(by exact w0)
  ·repeat' first|refine sP ?_ ?_<;>intro hb<;>(try rw[hb])<;>(try simp only[bb]at hb)<;>(try simp only[within]at hb)<;>try simp only[go_sem]|refine aI ?_|with_reducible refine dw sZ03b_f151 ?_|simp only[go_sem]
   refine vc_for (fun j=>⟨[(12,.int .i64 j),(7,.int .i64 1),(9,.int .i64 1),(2,.fn g []),(3,.lp 0 0),(4,.lp 1 0),(6,.lp 2 0)],[.box 91 [.int .i64 a0,.int .i64 a1,.int .i64 a2,.int .i64 a3,.int .i64 a4,.int .i64 a5,.int .i64 a6,.int .i64 a7,.int .i64 a8,.int .i64 a9,.int .i64 a10,.int .i64 a11] false,.box 91 [.int .i64 b0,.int .i64 b1,.int .i64 b2,.int .i64 b3,.int .i64 b4,.int .i64 b5,.int .i64 b6,.int .i64 b7,.int .i64 b8,.int .i64 b9,.int .i64 b10,.int .i64 b11] false,.box 91 (E (3+j)) false]⟩) 3 (fun _=>True) (by(first|exact wk_same (by simp only[go_sem,ic,Nat.add_zero,e3])|(refine wk_drop ?_ ?_ ?_ ?_ ?_<;>simp only[go_sem,ic,Nat.add_zero,e3]))) trivial ?_
   intro j hj _
   rcases Nat.lt_or_ge j 3 with hjl|hjg
   ·have hcj:j=0∨j=1∨j=2:=by omega
    rcases hcj with rfl|rfl|rfl
    ·repeat' first|refine sP ?_ ?_<;>intro hb<;>(try rw[hb])<;>(try simp only[bb]at hb)<;>(try simp only[within]at hb)<;>try simp only[go_sem,Nat.reduceAdd,e3]|refine aI ?_|with_reducible refine dw sZ03b_f151 ?_|with_reducible refine cq g3 ?_|simp only[go_sem,Nat.reduceAdd,e3]
     all_goals first|exact(by(first|exact wk_same (by simp only[go_sem,ic,e4])|(refine wk_drop ?_ ?_ ?_ ?_ ?_<;>simp only[go_sem,ic,e4])))
    ·repeat' first|refine sP ?_ ?_<;>intro hb<;>(try rw[hb])<;>(try simp only[bb]at hb)<;>(try simp only[within]at hb)<;>try simp only[go_sem,Nat.reduceAdd,e4]|refine aI ?_|with_reducible refine dw sZ03b_f151 ?_|with_reducible refine cq g4 ?_|simp only[go_sem,Nat.reduceAdd,e4]
     all_goals first|exact(by(first|exact wk_same (by simp only[go_sem,ic,e5])|(refine wk_drop ?_ ?_ ?_ ?_ ?_<;>simp only[go_sem,ic,e5])))
    ·repeat' first|refine sP ?_ ?_<;>intro hb<;>(try rw[hb])<;>(try simp only[bb]at hb)<;>(try simp only[within]at hb)<;>try simp only[go_sem,Nat.reduceAdd,e5]|refine aI ?_|with_reducible refine dw sZ03b_f151 ?_|with_reducible refine cq g5 ?_|simp only[go_sem,Nat.reduceAdd,e5]
     all_goals first|exact(by(first|exact wk_same (by simp only[go_sem,ic,e6])|(refine wk_drop ?_ ?_ ?_ ?_ ?_<;>simp only[go_sem,ic,e6])))
   ·have:j=3:=by omega
    subst this
    repeat' first|refine sP ?_ ?_<;>intro hb<;>(try rw[hb])<;>(try simp only[bb]at hb)<;>(try simp only[within]at hb)<;>try simp only[go_sem]|refine aI ?_|with_reducible refine dw sZ03b_f151 ?_|simp only[go_sem]
    all_goals first|exact(by exact w0)
  ·repeat' first|refine sP ?_ ?_<;>intro hb<;>(try rw[hb])<;>(try simp only[bb]at hb)<;>(try simp only[within]at hb)<;>try simp only[go_sem]|refine aI ?_|with_reducible refine dw sZ03b_f151 ?_|simp only[go_sem]
   refine vc_for (fun j=>⟨[(12,.int .i64 j),(7,.int .i64 2),(9,.int .i64 2),(2,.fn g []),(3,.lp 0 0),(4,.lp 1 0),(6,.lp 2 0)],[.box 91 [.int .i64 a0,.int .i64 a1,.int .i64 a2,.int .i64 a3,.int .i64 a4,.int .i64 a5,.int .i64 a6,.int .i64 a7,.int .i64 a8,.int .i64 a9,.int .i64 a10,.int .i64 a11] false,.box 91 [.int .i64 b0,.int .i64 b1,.int .i64 b2,.int .i64 b3,.int .i64 b4,.int .i64 b5,.int .i64 b6,.int .i64 b7,.int .i64 b8,.int .i64 b9,.int .i64 b10,.int .i64 b11] false,.box 91 (E (6+j)) false]⟩) 3 (fun _=>True) (by(first|exact wk_same (by simp only[go_sem,ic,Nat.add_zero,e6])|(refine wk_drop ?_ ?_ ?_ ?_ ?_<;>simp only[go_sem,ic,Nat.add_zero,e6]))) trivial ?_
   intro j hj _
   rcases Nat.lt_or_ge j 3 with hjl|hjg
   ·have hcj:j=0∨j=1∨j=2:=by omega
    rcases hcj with rfl|rfl|rfl
    ·repeat' first|refine sP ?_ ?_<;>intro hb<;>(try rw[hb])<;>(try simp only[bb]at hb)<;>(try simp only[within]at hb)<;>try simp only[go_sem,Nat.reduceAdd,e6]|refine aI ?_|with_reducible refine dw sZ03b_f151 ?_|with_reducible refine cq g6 ?_|simp only[go_sem,Nat.reduceAdd,e6]
     all_goals first|exact(by(first|exact wk_same (by simp only[go_sem,ic,e7])|(refine wk_drop ?_ ?_ ?_ ?_ ?_<;>simp only[go_sem,ic,e7])))
    ·repeat' first|refine sP ?_ ?_<;>intro hb<;>(try rw[hb])<;>(try simp only[bb]at hb)<;>(try simp only[within]at hb)<;>try simp only[go_sem,Nat.reduceAdd,e7]|refine aI ?_|with_reducible refine dw sZ03b_f151 ?_|with_reducible refine cq g7 ?_|simp only[go_sem,Nat.reduceAdd,e7]
     all_goals first|exact(by(first|exact wk_same (by simp only[go_sem,ic,e8])|(refine wk_drop ?_ ?_ ?_ ?_ ?_<;>simp only[go_sem,ic,e8])))
    ·repeat' first|refine sP ?_ ?_<;>intro hb<;>(try rw[hb])<;>(try simp only[bb]at hb)<;>(try simp only[within]at hb)<;>try simp only[go_sem,Nat.reduceAdd,e8]|refine aI ?_|with_reducible refine dw sZ03b_f151 ?_|with_reducible refine cq g8 ?_|simp only[go_sem,Nat.reduceAdd,e8]
     all_goals first|exact(by(first|exact wk_same (by simp only[go_sem,ic,e9])|(refine wk_drop ?_ ?_ ?_ ?_ ?_<;>simp only[go_sem,ic,e9])))
   ·have:j=3:=by omega
    subst this
    repeat' first|refine sP ?_ ?_<;>intro hb<;>(try rw[hb])<;>(try simp only[bb]at hb)<;>(try simp only[within]at hb)<;>try simp only[go_sem]|refine aI ?_|with_reducible refine dw sZ03b_f151 ?_|simp only[go_sem]
    all_goals first|exact(by exact w0)
  ·repeat' first|refine sP ?_ ?_<;>intro hb<;>(try rw[hb])<;>(try simp only[bb]at hb)<;>(try simp only[within]at hb)<;>try simp only[go_sem]|refine aI ?_|with_reducible refine dw sZ03b_f151 ?_|simp only[go_sem]
   refine vc_for (fun j=>⟨[(12,.int .i64 j),(7,.int .i64 3),(9,.int .i64 3),(2,.fn g []),(3,.lp 0 0),(4,.lp 1 0),(6,.lp 2 0)],[.box 91 [.int .i64 a0,.int .i64 a1,.int .i64 a2,.int .i64 a3,.int .i64 a4,.int .i64 a5,.int .i64 a6,.int .i64 a7,.int .i64 a8,.int .i64 a9,.int .i64 a10,.int .i64 a11] false,.box 91 [.int .i64 b0,.int .i64 b1,.int .i64 b2,.int .i64 b3,.int .i64 b4,.int .i64 b5,.int .i64 b6,.int .i64 b7,.int .i64 b8,.int .i64 b9,.int .i64 b10,.int .i64 b11] false,.box 91 (E (9+j)) false]⟩) 3 (fun _=>True) (by(first|exact wk_same (by simp only[go_sem,ic,Nat.add_zero,e9])|(refine wk_drop ?_ ?_ ?_ ?_ ?_<;>simp only[go_sem,ic,Nat.add_zero,e9]))) trivial ?_
   intro j hj _
   rcases Nat.lt_or_ge j 3 with hjl|hjg
   ·have hcj:j=0∨j=1∨j=2:=by omega
    rcases hcj with rfl|rfl|rfl
    ·repeat' first|refine sP ?_ ?_<;>intro hb<;>(try rw[hb])<;>(try simp only[bb]at hb)<;>(try simp only[within]at hb)<;>try simp only[go_sem,Nat.reduceAdd,e9]|refine aI ?_|with_reducible refine dw sZ03b_f151 ?_|with_reducible refine cq g9 ?_|simp only[go_sem,Nat.reduceAdd,e9]
     all_goals first|exact(by(first|exact wk_same (by simp only[go_sem,ic,e10])|(refine wk_drop ?_ ?_ ?_ ?_ ?_<;>simp only[go_sem,ic,e10])))
    ·repeat' first|refine sP ?_ ?_<;>intro hb<;>(try rw[hb])<;>(try simp only[bb]at hb)<;>(try simp only[within]at hb)<;>try simp only[go_sem,Nat.reduceAdd,e10]|refine aI ?_|with_reducible refine dw sZ03b_f151 ?_|with_reducible refine cq g10 ?_|simp only[go_sem,Nat.reduceAdd,e10]
     all_goals first|exact(by(first|exact wk_same (by simp only[go_sem,ic,e11])|(refine wk_drop ?_ ?_ ?_ ?_ ?_<;>simp only[go_sem,ic,e11])))
    ·repeat' first|refine sP ?_ ?_<;>intro hb<;>(try rw[hb])<;>(try simp only[bb]at hb)<;>(try simp only[within]at hb)<;>try simp only[go_sem,Nat.reduceAdd,e11]|refine aI ?_|with_reducible refine dw sZ03b_f151 ?_|with_reducible refine cq g11 ?_|simp only[go_sem,Nat.reduceAdd,e11]
     all_goals first|exact(by(first|exact wk_same (by simp only[go_sem,ic,e12])|(refine wk_drop ?_ ?_ ?_ ?_ ?_<;>simp only[go_sem,ic,e12])))
   ·have:j=3:=by omega
    subst this
    repeat' first|refine sP ?_ ?_<;>intro hb<;>(try rw[hb])<;>(try simp only[bb]at hb)<;>(try simp only[within]at hb)<;>try simp only[go_sem]|refine aI ?_|with_reducible refine dw sZ03b_f151 ?_|simp only[go_sem]
    all_goals first|exact(by exact w0)
 ·have:i=4:=by omega
  subst this
  repeat' first|refine sP ?_ ?_<;>intro hb<;>(try rw[hb])<;>(try simp only[bb]at hb)<;>(try simp only[within]at hb)<;>try simp only[go_sem,e12]|refine aI ?_|with_reducible refine dw sZ03b_f151 ?_|simp only[go_sem,e12]
theorem c152(a b:Int):PC prog 152 [.int .i64 a,.int .i64 b] (.int .i64 (max a b)):=by
 refine pB Tryz.func152 fun hlen=>CV.run ?_
 simp only[Tryz.f152]
 simp only[go_sem,length_map,and_true,true_and]at hlen
 repeat' first|refine sP ?_ ?_<;>intro hb<;>(try rw[hb])<;>(try simp only[bb]at hb)<;>(try simp only[within]at hb)<;>try simp only[go_sem]|refine aI ?_|simp only[go_sem]
theorem c162(a b:Int)(h:I64 (a+b)):PC prog 162 [.int .i64 a,.int .i64 b] (.int .i64 (a+b)):=by
 have h:=eq_true h
 refine pB Tryz.func162 fun hlen=>CV.run ?_
 simp only[Tryz.f162]
 simp only[go_sem,length_map,and_true,true_and]at hlen
 repeat' first|refine sP ?_ ?_<;>intro hb<;>(try rw[hb])<;>(try simp only[bb]at hb)<;>(try simp only[within]at hb)<;>try simp only[go_sem,h]|refine aI ?_|simp only[go_sem,h]
theorem c186(a b:Int)(h:I64 (b-a)):PC prog 186 [.int .i64 a,.int .i64 b] (.int .i64 (max 0 (b-a))):=by
 have h:=eq_true h
 refine pB Tryz.func186 fun hlen=>CV.run ?_
 simp only[Tryz.f186]
 simp only[go_sem,length_map,and_true,true_and]at hlen
 repeat' first|refine sP ?_ ?_<;>intro hb<;>(try rw[hb])<;>(try simp only[bb]at hb)<;>(try simp only[within]at hb)<;>try simp only[go_sem,h]|refine aI ?_|simp only[go_sem,h]
theorem zipS_len{φ:Int→Int→Int}{s t:List Int}(hs:s.length=12)(ht:t.length=12):(zipS φ s t).length=12:=by unfold zipS;simp[hs,ht]
theorem tk12{s:List Int}(hs:s.length=12):List.take 12 (s.map I)=s.map I:=List.take_of_length_le (by simp[hs])
theorem dr12{s:List Int}(hs:s.length=12):List.drop 12 (s.map I)=[]:=List.drop_eq_nil_of_le (by simp[hs])
set_option maxHeartbeats 1000000 in
theorem c76(s t:List Int)(hs:s.length=12)(ht:t.length=12):PC prog 76 [.agg (s.map I),.agg (t.map I)] (.agg ((zipS max s t).map I)):=by
 have h63:=c151 152 max s t hs ht fun a b _ _=>c152 a b
 have hz:=zipS_len (φ:=max) hs ht
 refine PC.body Tryz.func76 (by kernel_rfl) rfl (by simp[Tryz.f76]) (pureL_mapI _) ?_
 simp only[Tryz.f76]
 intro hlen
 simp only[go_sem,length_map,and_true,true_and]at hlen
 refine CV.run ?_
 repeat' first|refine sP ?_ ?_<;>intro hb<;>(try rw[hb])<;>(try simp only[bb]at hb)<;>(try simp only[within]at hb)<;>try simp only[go_sem,allOne_mapI,tk12 hs,tk12 ht,tk12 hz,dr12 hs,dr12 ht,dr12 hz,hs,ht,hz,length_map,append_nil]|refine aI ?_|simp only[go_sem,allOne_mapI,tk12 hs,tk12 ht,tk12 hz,dr12 hs,dr12 ht,dr12 hz,hs,ht,hz,length_map,append_nil]
 refine vcP_pure h63 (pureL_mapI _) (by(simp only[go_sem,pureL_mapI,AV.pureL,AV.pure,Bool.and_self])) (by(simp only[go_sem,frzL_mapI])) ?_
 repeat' first|refine sP ?_ ?_<;>intro hb<;>(try rw[hb])<;>(try simp only[bb]at hb)<;>(try simp only[within]at hb)<;>try simp only[go_sem,allOne_mapI,tk12 hs,tk12 ht,tk12 hz,dr12 hs,dr12 ht,dr12 hz,hs,ht,hz,length_map,append_nil,frzL_mapI]|refine aI ?_|simp only[go_sem,allOne_mapI,tk12 hs,tk12 ht,tk12 hz,dr12 hs,dr12 ht,dr12 hz,hs,ht,hz,length_map,append_nil,frzL_mapI]
set_option maxHeartbeats 1000000 in
theorem c156(s t:List Int)(hs:s.length=12)(ht:t.length=12)(h: ∀a b,a∈s→b∈t→I64 (b-a)):PC prog 156 [.agg (s.map I),.agg (t.map I)] (.agg ((zipS (fun a b=>max 0 (b-a)) s t).map I)):=by
 have h63:=c151 186 (fun a b=>max 0 (b-a)) s t hs ht fun a b h1 h2=>c186 a b (h a b h1 h2)
 have hz:=zipS_len (φ:=fun a b=>max 0 (b-a)) hs ht
 refine PC.body Tryz.func156 (by kernel_rfl) rfl (by simp[Tryz.f156]) (pureL_mapI _) ?_
 simp only[Tryz.f156]
 intro hlen
 simp only[go_sem,length_map,and_true,true_and]at hlen
 refine CV.run ?_
 repeat' first|refine sP ?_ ?_<;>intro hb<;>(try rw[hb])<;>(try simp only[bb]at hb)<;>(try simp only[within]at hb)<;>try simp only[go_sem,allOne_mapI,tk12 hs,tk12 ht,tk12 hz,dr12 hs,dr12 ht,dr12 hz,hs,ht,hz,length_map,append_nil]|refine aI ?_|simp only[go_sem,allOne_mapI,tk12 hs,tk12 ht,tk12 hz,dr12 hs,dr12 ht,dr12 hz,hs,ht,hz,length_map,append_nil]
 refine vcP_pure h63 (pureL_mapI _) (by(simp only[go_sem,pureL_mapI,AV.pureL,AV.pure,Bool.and_self])) (by(simp only[go_sem,frzL_mapI])) ?_
 repeat' first|refine sP ?_ ?_<;>intro hb<;>(try rw[hb])<;>(try simp only[bb]at hb)<;>(try simp only[within]at hb)<;>try simp only[go_sem,allOne_mapI,tk12 hs,tk12 ht,tk12 hz,dr12 hs,dr12 ht,dr12 hz,hs,ht,hz,length_map,append_nil,frzL_mapI]|refine aI ?_|simp only[go_sem,allOne_mapI,tk12 hs,tk12 ht,tk12 hz,dr12 hs,dr12 ht,dr12 hz,hs,ht,hz,length_map,append_nil,frzL_mapI]
def zer12:List Int:=[0,0,0,0,0,0,0,0,0,0,0,0]
theorem eqL_I{a b:List Int}(h:a.length=b.length):eqL (a.map I) (b.map I)=some (decide (a=b)):=by
 exact eqL_ints a b h
abbrev misS(s t:List Int):List Int:=zipS (fun a b=>max 0 (b-a)) s t
set_option maxHeartbeats 1000000 in
theorem c82(s t:List Int)(hs:s.length=12)(ht:t.length=12)(h: ∀a b,a∈s→b∈t→I64 (b-a)):PC prog 82 [.agg (s.map I),.agg (t.map I)] (.bool (decide (misS s t=zer12))):=by
 have h99:=c156 s t hs ht h
 have hz:(misS s t).length=12:=zipS_len hs ht
 have he:eqL ((misS s t).map I) [.int .i64 0,.int .i64 0,.int .i64 0,.int .i64 0,.int .i64 0,.int .i64 0,.int .i64 0,.int .i64 0,.int .i64 0,.int .i64 0,.int .i64 0,.int .i64 0]=some (decide (misS s t=zer12)):=eqL_I (b:=zer12) hz
 refine pB Tryz.func82 fun hlen=>CV.run ?_
 simp only[Tryz.f82]
 simp only[go_sem,length_map,and_true,true_and]at hlen
 repeat' first|refine sP ?_ ?_<;>intro hb<;>(try rw[hb])<;>(try simp only[bb]at hb)<;>(try simp only[within]at hb)<;>try simp only[go_sem,allOne_mapI,tk12 hs,tk12 ht,tk12 hz,dr12 hs,dr12 ht,dr12 hz,hs,ht,hz,length_map,append_nil]|refine aI ?_|simp only[go_sem,allOne_mapI,tk12 hs,tk12 ht,tk12 hz,dr12 hs,dr12 ht,dr12 hz,hs,ht,hz,length_map,append_nil]
 refine vcP_pure h99 (pureL_mapI _) (by(simp only[go_sem,pureL_mapI,AV.pureL,AV.pure,Bool.and_self])) (by(simp only[go_sem,frzL_mapI])) ?_
 repeat' first|refine sP ?_ ?_<;>intro hb<;>(try rw[hb])<;>(try simp only[bb]at hb)<;>(try simp only[within]at hb)<;>try simp only[go_sem,allOne_mapI,tk12 hz,dr12 hz,hz,he,length_map,append_nil,frzL_mapI,or_true,if_true]|refine aI ?_|simp only[go_sem,allOne_mapI,tk12 hz,dr12 hz,hz,he,length_map,append_nil,frzL_mapI,or_true,if_true]
end Go.Proofs.YtoadkchhimojlaaGreatDoor
