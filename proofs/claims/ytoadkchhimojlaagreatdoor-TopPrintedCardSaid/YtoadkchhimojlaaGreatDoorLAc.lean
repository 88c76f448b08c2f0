/- Contracts of functions of the given program, without a condition beyond those that each theorem states; they lead to the given statement. -/
import Derived.Test.YtoadkchhimojlaaGreatDoorLAb
import Derived.Test.YtoadkchhimojlaaGreatDoorFlC
set_option linter.unusedSectionVars false
set_option linter.unusedSimpArgs false
set_option linter.unusedVariables false
set_option maxRecDepth 100000
open List(append_nil drop_succ_cons drop_zero length_append length_cons length_map length_nil map_append map_congr_left map_cons map_map map_nil mem_of_getElem? nil_append take_zero)
open Go.Proofs.Tryz(prog)
namespace Go.Proofs.YtoadkchhimojlaaGreatDoor.W2
open Go Go.Fl
open Classical
theorem c101(n:Int):PC prog 101 [.int .i64 n] (.bool (decide (¬within n 0 12))):=by
 refine pB Tryz.func101 fun hlen=>CV.run ?_
 simp only[Tryz.f101]
 simp only[go_sem,length_map,and_true,true_and]at hlen
 repeat' first|refine sP ?_ ?_<;>intro hb<;>(try rw[hb])<;>(try simp only[bb]at hb)<;>(try simp only[within]at hb)<;>try simp only[go_sem]|refine aI ?_|with_reducible refine cq (c102 _ _ _) ?_|simp only[go_sem]
 exact bn (by simp)
theorem c104(n:Int):PC prog 104 [.int .i64 n] (.bool (decide (¬within n 0 12))):=by
 refine pB Tryz.func104 fun hlen=>CV.run ?_
 simp only[Tryz.f104]
 simp only[go_sem,length_map,and_true,true_and]at hlen
 repeat' first|refine sP ?_ ?_<;>intro hb<;>(try rw[hb])<;>(try simp only[bb]at hb)<;>(try simp only[within]at hb)<;>try simp only[go_sem]|refine aI ?_|with_reducible refine cq (c102 _ _ _) ?_|simp only[go_sem]
 exact bn (by simp)
theorem c163(l:List Int)(g:Nat)(q:Int→Prop)(hf: ∀n,n∈l→PC prog g [.int .i64 n] (.bool (decide (q n)))):PC prog 163 [lN l,.fn g []] (.int .i64 (ix q l)):=by
 refine pB Tryz.func163 fun hlen=>CV.run ?_
 simp only[Tryz.f163]
 simp only[go_sem,length_map,and_true,true_and]at hlen
 repeat' first|refine sP ?_ ?_<;>intro hb<;>(try rw[hb])<;>(try simp only[bb]at hb)<;>(try simp only[within]at hb)<;>try simp only[go_sem]|refine aI ?_|simp only[go_sem]
 refine vc_for (fun j=>⟨[(8,.int .i64 j),(7,.int .i64 l.length),(4,.int .i64 0),(0,lN l),(1,.fn g [])],[]⟩) l.length (fun j=> ∀i,i<j→ ∀b,l[i]? =some b→ ¬q b) (by exact w0) (fun i h=>by omega) ?_
 intro j hj hx
 rcases Nat.lt_or_ge j l.length with hlt|hge
 ·obtain⟨m,hm⟩:=get_of hlt
  have hlt':(j:Int)<l.length:=by omega
  have hfm:=hf m (mem_of_getElem? hm)
  repeat' first|refine sP ?_ ?_<;>intro hb<;>(try rw[hb])<;>(try simp only[bb]at hb)<;>(try simp only[within]at hb)<;>try simp only[go_sem,hlt',hm,encN]|refine aI ?_|with_reducible refine cq hfm ?_|simp only[go_sem,hlt',hm,encN]
  ·rw[ix_at ⟨⟨m,hm,hb⟩,hx⟩]
  ·refine⟨by exact w0,fun i hi b hib=>?_⟩
   rcases Nat.lt_or_ge i j with h|h
   ·exact hx i h b hib
   ·have:i=j:=by omega
    subst this
    rw[hm]at hib;cases hib;exact hb
 ·have hge': ¬(j:Int)<l.length:=by omega
  repeat' first|refine sP ?_ ?_<;>intro hb<;>(try rw[hb])<;>(try simp only[bb]at hb)<;>(try simp only[within]at hb)<;>try simp only[go_sem,hge']|refine aI ?_|simp only[go_sem,hge']
  rw[ix_no (fun i b hb=>hx i (by have:=(List.getElem?_eq_some_iff.1 hb).1;omega) b hb)]
theorem c93(l:List Int)(g:Nat)(q:Int→Prop)(hf: ∀n,n∈l→PC prog g [.int .i64 n] (.bool (decide (q n)))):PC prog 93 [lN l,.fn g []] (.bool (decide (∃n,n∈l∧q n))):=by
 refine pB Tryz.func93 fun hlen=>CV.run ?_
 simp only[Tryz.f93]
 simp only[go_sem,length_map,and_true,true_and]at hlen
 repeat' first|refine sP ?_ ?_<;>intro hb<;>(try rw[hb])<;>(try simp only[bb]at hb)<;>(try simp only[within]at hb)<;>try simp only[go_sem]|refine aI ?_|with_reducible refine cq (c163 l g q hf) ?_|simp only[go_sem]
 exact bd ix_ge
theorem c166(l:List Mould)(g:Nat)(cs:List AV)(hcp:AV.pureL cs=true)(q:Mould→Prop)(hf: ∀n,n∈l→PC prog g [.agg (encD n),.pp cs] (.bool (decide (q n)))):PC prog 166 [.lst false 3 (l.map encD),.fn g [.pp cs]] (.int .i64 (ix q l)):=by
 have hfz:=frzL_self [] cs hcp
 refine pB Tryz.func166 fun hlen=>CV.run ?_
 simp only[Tryz.f166]
 simp only[go_sem,length_map,and_true,true_and]at hlen
 repeat' first|refine sP ?_ ?_<;>intro hb<;>(try rw[hb])<;>(try simp only[bb]at hb)<;>(try simp only[within]at hb)<;>try simp only[go_sem,hfz]|refine aI ?_|simp only[go_sem,hfz]
 refine vc_for (fun j=>⟨[(8,.int .i64 j),(7,.int .i64 l.length),(4,.int .i64 0),(0,.lst false 3 (l.map encD)),(1,.fn g [.pp cs])],[]⟩) l.length (fun j=> ∀i,i<j→ ∀b,l[i]? =some b→ ¬q b) (by exact w0) (fun i h=>by omega) ?_
 intro j hj hx
 rcases Nat.lt_or_ge j l.length with hlt|hge
 ·obtain⟨m,hm⟩:=get_of hlt
  have hlt':(j:Int)<l.length:=by omega
  have hfm:=hf m (mem_of_getElem? hm)
  simp only[encD]at hfm
  repeat' first|refine sP ?_ ?_<;>intro hb<;>(try rw[hb])<;>(try simp only[bb]at hb)<;>(try simp only[within]at hb)<;>try simp only[go_sem,hlt',hm,encD,hfz]|refine aI ?_|with_reducible refine cq hfm ?_|simp only[go_sem,hlt',hm,encD,hfz]
  ·rw[ix_at ⟨⟨m,hm,hb⟩,hx⟩]
  ·refine⟨by exact w0,fun i hi b hib=>?_⟩
   rcases Nat.lt_or_ge i j with h|h
   ·exact hx i h b hib
   ·have:i=j:=by omega
    subst this
    rw[hm]at hib;cases hib;exact hb
 ·have hge': ¬(j:Int)<l.length:=by omega
  repeat' first|refine sP ?_ ?_<;>intro hb<;>(try rw[hb])<;>(try simp only[bb]at hb)<;>(try simp only[within]at hb)<;>try simp only[go_sem,hge']|refine aI ?_|simp only[go_sem,hge']
  rw[ix_no (fun i b hb=>hx i (by have:=(List.getElem?_eq_some_iff.1 hb).1;omega) b hb)]
theorem c105(l:List Mould)(g:Nat)(cs:List AV)(hcp:AV.pureL cs=true)(q:Mould→Prop)(hf: ∀n,n∈l→PC prog g [.agg (encD n),.pp cs] (.bool (decide (q n)))):PC prog 105 [.lst false 3 (l.map encD),.fn g [.pp cs]] (.bool (decide (∃n,n∈l∧q n))):=by
 have hfz:=frzL_self [] cs hcp
 refine pB Tryz.func105 fun hlen=>CV.run ?_
 simp only[Tryz.f105]
 simp only[go_sem,length_map,and_true,true_and]at hlen
 repeat' first|refine sP ?_ ?_<;>intro hb<;>(try rw[hb])<;>(try simp only[bb]at hb)<;>(try simp only[within]at hb)<;>try simp only[go_sem,hfz]|refine aI ?_|with_reducible refine cq (c166 l g cs hcp q hf) ?_|simp only[go_sem,hfz]
 exact bd ix_ge
theorem c167(l:List (List Int))(g:Nat)(cs:List AV)(hcp:AV.pureL cs=true)(q:List Int→Prop)(hf: ∀n,n∈l→PC prog g [lN n,.pp cs] (.bool (decide (q n)))):PC prog 167 [.lst false 1 (l.map encW),.fn g [.pp cs]] (.int .i64 (ix q l)):=by
 have hfz:=frzL_self [] cs hcp
 refine pB Tryz.func167 fun hlen=>CV.run ?_
 simp only[Tryz.f167]
 simp only[go_sem,length_map,and_true,true_and]at hlen
 repeat' first|refine sP ?_ ?_<;>intro hb<;>(try rw[hb])<;>(try simp only[bb]at hb)<;>(try simp only[within]at hb)<;>try simp only[go_sem,hfz]|refine aI ?_|simp only[go_sem,hfz]
 refine vc_for (fun j=>⟨[(8,.int .i64 j),(7,.int .i64 l.length),(4,.int .i64 0),(0,.lst false 1 (l.map encW)),(1,.fn g [.pp cs])],[]⟩) l.length (fun j=> ∀i,i<j→ ∀b,l[i]? =some b→ ¬q b) (by exact w0) (fun i h=>by omega) ?_
 intro j hj hx
 rcases Nat.lt_or_ge j l.length with hlt|hge
 ·obtain⟨m,hm⟩:=get_of hlt
  have hlt':(j:Int)<l.length:=by omega
  have hfm:=hf m (mem_of_getElem? hm)
  repeat' first|refine sP ?_ ?_<;>intro hb<;>(try rw[hb])<;>(try simp only[bb]at hb)<;>(try simp only[within]at hb)<;>try simp only[go_sem,hlt',hm,encW,hfz]|refine aI ?_|with_reducible refine cq hfm ?_|simp only[go_sem,hlt',hm,encW,hfz]
  ·rw[ix_at ⟨⟨m,hm,hb⟩,hx⟩]
  ·refine⟨by exact w0,fun i hi b hib=>?_⟩
   rcases Nat.lt_or_ge i j with h|h
   ·exact hx i h b hib
   ·have:i=j:=by omega
    subst this
    rw[hm]at hib;cases hib;exact hb
 ·have hge': ¬(j:Int)<l.length:=by omega
  repeat' first|refine sP ?_ ?_<;>intro hb<;>(try rw[hb])<;>(try simp only[bb]at hb)<;>(try simp only[within]at hb)<;>try simp only[go_sem,hge']|refine aI ?_|simp only[go_sem,hge']
  rw[ix_no (fun i b hb=>hx i (by have:=(List.getElem?_eq_some_iff.1 hb).1;omega) b hb)]
theorem c106(l:List (List Int))(g:Nat)(cs:List AV)(hcp:AV.pureL cs=true)(q:List Int→Prop)(hf: ∀n,n∈l→PC prog g [lN n,.pp cs] (.bool (decide (q n)))):PC prog 106 [.lst false 1 (l.map encW),.fn g [.pp cs]] (.bool (decide (∃n,n∈l∧q n))):=by
 have hfz:=frzL_self [] cs hcp
 refine pB Tryz.func106 fun hlen=>CV.run ?_
 simp only[Tryz.f106]
 simp only[go_sem,length_map,and_true,true_and]at hlen
 repeat' first|refine sP ?_ ?_<;>intro hb<;>(try rw[hb])<;>(try simp only[bb]at hb)<;>(try simp only[within]at hb)<;>try simp only[go_sem,hfz]|refine aI ?_|with_reducible refine cq (c167 l g cs hcp q hf) ?_|simp only[go_sem,hfz]
 exact bd ix_ge
theorem c100(s:Shop)(w:List Int):PC prog 100 [lN w,.pp (cS s)] (.bool (decide (¬okW s w))):=by
 have h87:=c93 w 101 (fun n=> ¬within n 0 12) fun n _=>(c101 n).dec
 refine pB Tryz.func100 fun hlen=>CV.run ?_
 simp only[Tryz.f100]
 simp only[go_sem,length_map,and_true,true_and]at hlen
 repeat' first|refine sP ?_ ?_<;>intro hb<;>(try rw[hb])<;>(try simp only[bb]at hb)<;>(try simp only[within]at hb)<;>try simp only[go_sem]|refine aI ?_|with_reducible refine cq h87 ?_|simp only[go_sem]
 all_goals first
  |exact bt (p:= ¬okW s w) fun h=>by have:=h.1;omega
  |exact bd ⟨fun⟨n,h1,h2⟩ h=>h2 (h.2 n h1),fun h=>Classical.byContradiction fun h2=>h ⟨by omega,fun n hn=>Classical.byContradiction fun h3=>h2 ⟨n,hn,h3⟩⟩⟩
theorem c103(s:Shop)(m:Mould):PC prog 103 [.agg (encD m),.pp (cS s)] (.bool (decide (¬okM s m))):=by
 simp only[encD]
 refine pB Tryz.func103 fun hlen=>CV.run ?_
 simp only[Tryz.f103]
 simp only[go_sem,length_map,and_true,true_and]at hlen
 repeat' first|refine sP ?_ ?_<;>intro hb<;>(try rw[hb])<;>(try simp only[bb]at hb)<;>(try simp only[within]at hb)<;>try simp only[go_sem]|refine aI ?_|with_reducible refine cq (c102 _ _ _) ?_|simp only[go_sem]
 all_goals first
  |exact bt (p:= ¬okM s m) (by unfold okM within;omega)
  |exact bn (by unfold okM within;omega)
theorem c56(s:Shop):PC prog 56 [hS s] (.int .i64 (check s)):=by
 have h87:=c93 s.wt 104 (fun n=> ¬within n 0 12) fun n _=>(c104 n).dec
 have h91:=c105 s.ms 103 (cS s) rfl (fun m=> ¬okM s m) fun m _=>(c103 s m).dec
 have h92:=c106 s.ws 100 (cS s) rfl (fun w=> ¬okW s w) fun w _=>(c100 s w).dec
 refine pB Tryz.func56 fun hlen=>CV.run ?_
 simp only[Tryz.f56]
 simp only[go_sem,length_map,and_true,true_and]at hlen
 repeat' first|refine sP ?_ ?_<;>intro hb<;>(try rw[hb])<;>(try simp only[bb]at hb)<;>(try simp only[within]at hb)<;>try simp only[go_sem]|refine aI ?_|with_reducible refine cq (c102 _ _ _) ?_|with_reducible refine cq h87 ?_|with_reducible refine cq h91 ?_|with_reducible refine cq h92 ?_|simp only[go_sem]
 all_goals try exact ck20 (not_valid (by unfold within;omega))
 ·obtain⟨n,h1,h2⟩:=hb
  exact ck20 fun q=>h2 (q.2.2.2.2.1 n h1)
 ·obtain⟨n,h1,h2⟩:=hb
  exact ck20 fun q=>h2 (q.2.2.2.2.2.1 n h1)
 ·obtain⟨n,h1,h2⟩:=hb
  exact ck20 fun q=>h2 (q.2.2.2.2.2.2 n h1)
 ·rename_i a1 a2 a3 a4 a5 a6
  exact ck0 ⟨by omega,by omega,by omega,a4,fun n hn=>Classical.byContradiction fun h=>a5 ⟨n,hn,h⟩,fun n hn=>Classical.byContradiction fun h=>a6 ⟨n,hn,h⟩,fun n hn=>Classical.byContradiction fun h=>hb ⟨n,hn,h⟩⟩
def sZ02i_f200(_:Nat):List (Nat×Nat):=[(0,0),(0,0),(0,0),(0,0),(0,0),(0,0),(0,0),(0,0),(0,0),(0,0),(0,0),(0,0),(0,0),(0,0),(0,0),(0,0),(0,0),(0,0),(0,0),(0,0),(0,0)]
attribute [go_sem] sZ02i_f200
set_option maxHeartbeats 1000000 in
theorem c200(s:Shop)(w:List Int)(hw:w.length=s.ms.length):PC prog 200 [hS s,lN w] (.bool (agrB s w)):=by
 refine pB Tryz.func200 fun hlen=>CV.run ?_
 simp only[Tryz.f200]
 simp only[go_sem,length_map,and_true,true_and]at hlen
 repeat' first|refine sP ?_ ?_<;>intro hb<;>(try rw[hb])<;>(try simp only[bb]at hb)<;>(try simp only[within]at hb)<;>try simp only[go_sem]|refine aI ?_|with_reducible refine dw sZ02i_f200 ?_|simp only[go_sem]
 refine vc_for (fun j=>⟨[(10,.int .i64 j),(9,.int .i64 s.ms.length),(8,.lst false 3 (s.ms.map encD)),(4,.bool false),(1,lN w)],[.box 32 (cS s) false]⟩) s.ms.length (fun j=>allTo (fun i m=>agr1 m (gv w i)=true) s.ms j) (by exact w0) .zero ?_
 intro j hj hx
 rcases Nat.lt_or_ge j s.ms.length with hlt|hge
 ·obtain⟨m,hm⟩:=get_of hlt
  obtain⟨x,hxx⟩:=get_of (l:=w) (j:=j) (by omega)
  have hlt':(j:Int)<s.ms.length:=by omega
  have hlt2':(j:Int)<w.length:=by omega
  have hg:=gv_nat hxx
  repeat' first|refine sP ?_ ?_<;>intro hb<;>(try rw[hb])<;>(try simp only[bb]at hb)<;>(try simp only[within]at hb)<;>try simp only[go_sem,hlt',hlt2',hm,hxx,encD,encN]|refine aI ?_|with_reducible refine dw sZ02i_f200 ?_|simp only[go_sem,hlt',hlt2',hm,hxx,encD,encN]
  all_goals first
   |exact fB (agrB_no hm (by rw[hg];omega))
   |exact⟨by exact w0,hx.succ hm (agr1_iff.2 (by rw[hg];omega))⟩
 ·have hge': ¬(j:Int)<s.ms.length:=by omega
  repeat' first|refine sP ?_ ?_<;>intro hb<;>(try rw[hb])<;>(try simp only[bb]at hb)<;>(try simp only[within]at hb)<;>try simp only[go_sem,hge']|refine aI ?_|with_reducible refine dw sZ02i_f200 ?_|simp only[go_sem,hge']
  exact tB (agrB_yes hx hge)
theorem c182(s:Shop):PC prog 182 [hS s] (.fn 199 [.pp (cS s)]):=by
 refine pB Tryz.func182 fun hlen=>CV.run ?_
 simp only[Tryz.f182]
 simp only[go_sem,length_map,and_true,true_and]at hlen
 repeat' first|refine sP ?_ ?_<;>intro hb<;>(try rw[hb])<;>(try simp only[bb]at hb)<;>(try simp only[within]at hb)<;>try simp only[go_sem]|refine aI ?_|simp only[go_sem]
theorem c199(s:Shop)(hv:valid s)(HS:Nat→Heap)(l nt0:Nat)(ps:Array Tmp)(assign body:Code)(env0:Env)
  (hy: ∀(n:Nat) (w:List Int),s.ws[n]? =some w→agrB s w=true→HCY prog l [.int .i64 n,lN w] (HS n++[.loop l nt0 ps assign body env0]) fun r H2=>r= .bool true∧H2=HS (n+1)++[.loop l nt0 ps assign body env0])
  (hno: ∀(n:Nat) (w:List Int),s.ws[n]? =some w→agrB s w≠true→HS (n+1)=HS n):
  HCH prog 199 [.yld l,.pp (cS s)] (HS 0++[.loop l nt0 ps assign body env0]) fun r H'=> ∃rest,H'=HS s.ws.length++ .loop l nt0 ps assign body env0::rest:=by
 have h6:=hv.2.2.1
 refine HCH.body Tryz.func199 (by kernel_rfl) rfl (by simp[Tryz.f199]) ?_
 simp only[Tryz.f199]
 refine CV.run ?_
 repeat' first|refine sP ?_ ?_<;>intro hb<;>(try rw[hb])<;>(try simp only[bb]at hb)<;>(try simp only[within]at hb)<;>try simp only[go_sem]|refine aI ?_|simp only[go_sem]
 refine vc_for (fun n=>⟨[(8,.int .i64 n),(7,.int .i64 s.ws.length),(6,.lst false 1 (s.ws.map encW)),(0,.yld l),(1,.pp (cS s))],HS n++[.loop l nt0 ps assign body env0]⟩) s.ws.length (fun _=>True) (by exact w0) trivial ?_
 intro n hn _
 rcases Nat.lt_or_ge n s.ws.length with hlt|hge
 ·obtain⟨w,hw⟩:=get_of hlt
  have hlt':(n:Int)<s.ws.length:=by omega
  have h93:=c200 s w (hv.world hw).1
  cases hB:agrB s w
  ·rw[hB]at h93
   have e:=hno n w hw (by rw[hB];simp)
   repeat' first|refine sP ?_ ?_<;>intro hb<;>(try rw[hb])<;>(try simp only[bb]at hb)<;>(try simp only[within]at hb)<;>try simp only[go_sem,hlt',hw,encW]|refine aI ?_|with_reducible refine cq h93 ?_|simp only[go_sem,hlt',hw,encW]
   rw[e]
   exact w0
  ·rw[hB]at h93
   have hyy:=hy n w hw hB
   repeat' first|refine sP ?_ ?_<;>intro hb<;>(try rw[hb])<;>(try simp only[bb]at hb)<;>(try simp only[within]at hb)<;>try simp only[go_sem,hlt',hw,encW]|refine aI ?_|with_reducible refine cq h93 ?_|simp only[go_sem,hlt',hw,encW]
   refine vcY_call hyy (by(simp only[go_sem])) (by(simp only[go_sem])) ?_
   repeat' first|refine sP ?_ ?_<;>intro hb<;>(try rw[hb])<;>(try simp only[bb]at hb)<;>(try simp only[within]at hb)<;>try simp only[go_sem]|refine aI ?_|simp only[go_sem]
   exact w0
 ·have hge': ¬(n:Int)<s.ws.length:=by omega
  have:n=s.ws.length:=by omega
  subst this
  repeat' first|refine sP ?_ ?_<;>intro hb<;>(try rw[hb])<;>(try simp only[bb]at hb)<;>(try simp only[within]at hb)<;>try simp only[go_sem,hge']|refine aI ?_|simp only[go_sem,hge']
  exact⟨[],rfl⟩
def sZ02j_f180:Nat→List (Nat×Nat)
 |13=>[(0,0),(0,0),(0,0),(0,0),(0,0),(0,0),(0,0),(0,0),(0,0),(0,0)]
 |14=>[(0,0),(0,0),(0,0),(0,0),(0,0),(0,0),(0,0),(0,0),(0,0),(0,0),(0,0),(0,0),(0,0),(0,0),(0,0),(0,0),(0,0),(0,0)]
 |15=>[(0,0),(0,0),(0,0),(0,0),(0,0),(0,0),(0,0),(0,0),(0,0)]
 |17=>[(0,1),(0,0),(0,0),(0,0),(0,0),(0,0),(0,0),(0,0),(1,1),(1,1),(0,0)]
 |_=>[]
attribute [go_sem] sZ02j_f180
def arr(f:Nat→Int):List Int:=(List.range 5).map f
theorem arr_len{f:Nat→Int}:(arr f).length=5:=by simp[arr]
theorem arr_get{f:Nat→Int}{k:Nat}(h:k<5):(arr f)[k]? =some (f k):=by
 simp[arr,h]
theorem arr_set{f g:Nat→Int}{k:Nat}{v:Int}(hk:k<5)(h1:g k=v)(h2: ∀i,i≠k→g i=f i):(arr f).set k v=arr g:=by
 apply List.ext_getElem?
 intro i
 rw[List.getElem?_set]
 by_cases hi:k=i
 ·subst hi
  rw[if_pos rfl,if_pos (by rw[arr_len];exact hk),arr_get hk,h1]
 ·rw[if_neg hi]
  rcases Nat.lt_or_ge i 5 with h5|h5
  ·rw[arr_get h5,arr_get h5,h2 i (fun e=>hi e.symm)]
  ·rw[List.getElem?_eq_none (by rw[arr_len];exact h5),List.getElem?_eq_none (by rw[arr_len];exact h5)]
theorem arr_ext{f g:Nat→Int}(h: ∀i,i<5→f i=g i):arr f=arr g:=by
 unfold arr
 exact map_congr_left fun i hi=>h i (List.mem_range.1 hi)
theorem arr_zero:(arr fun _=>0).map I=[.int .i64 0,.int .i64 0,.int .i64 0,.int .i64 0,.int .i64 0]:=rfl
def lvF(s:Shop)(w:List Int)(k i:Nat):Int:=if i<k then lf s w i else 0
def lvT(s:Shop)(w:List Int)(k:Nat):List Int:=arr (lvF s w k)
def lv(s:Shop)(w:List Int):List Int:=lvT s w s.ms.length
def suF(s:Shop)(W:List (List Int))(i:Nat):Int:=if i<s.ms.length then loW s W i else 0
def su(s:Shop)(W:List (List Int)):List Int:=arr (suF s W)
def mxF(s:Shop)(W:List (List Int))(w:List Int)(k i:Nat):Int:=if i<s.ms.length then(if i<k then loW s (W++[w]) i else loW s W i)else 0
def mx(s:Shop)(W:List (List Int))(w:List Int)(k:Nat):List Int:=arr (mxF s W w k)
theorem lvT_zero{s:Shop}{w:List Int}:(lvT s w 0).map I=[.int .i64 0,.int .i64 0,.int .i64 0,.int .i64 0,.int .i64 0]:=by
 rw[←arr_zero];rfl
theorem su_nil{s:Shop}:(su s []).map I=[.int .i64 0,.int .i64 0,.int .i64 0,.int .i64 0,.int .i64 0]:=by
 rw[←arr_zero,su,arr_ext (g:=fun _=>0) (fun i _=>by unfold suF;split<;>rfl)]
theorem lvT_succ{s:Shop}{w:List Int}{k:Nat}(hk:k<5):(lvT s w k).set k (lf s w k)=lvT s w (k+1):=
 arr_set hk (by simp[lvF]) fun i hi=>by
  unfold lvF
  by_cases h:i<k
  ·rw[if_pos h,if_pos (by omega)]
  ·rw[if_neg h,if_neg (by omega)]
theorem mx_zero{s:Shop}{W:List (List Int)}{w:List Int}:mx s W w 0=su s W:=arr_ext fun i _=>by simp[mxF,suF]
theorem mx_full{s:Shop}{W:List (List Int)}{w:List Int}:mx s W w s.ms.length=su s (W++[w]):=arr_ext fun i _=>by
 unfold mxF suF
 by_cases h:i<s.ms.length<;>simp[h]
theorem mx_get{s:Shop}{W:List (List Int)}{w:List Int}{k:Nat}(hk:k<s.ms.length)(h5:k<5):(mx s W w k)[k]? =some (loW s W k):=by
 rw[mx,arr_get h5];simp[mxF,hk]
theorem mx_succ{s:Shop}{W:List (List Int)}{w:List Int}{k:Nat}(hk:k<s.ms.length)(h5:k<5){v:Int}(hv:loW s (W++[w]) k=v):(mx s W w k).set k v=mx s W w (k+1):=
 arr_set h5 (by simp[mxF,hk,hv]) fun i hi=>by
  unfold mxF
  by_cases h:i<k
  ·simp[h,show i<k+1 from by omega]
  ·simp[h,show¬i<k+1 from by omega]
theorem mx_same{s:Shop}{W:List (List Int)}{w:List Int}{k:Nat}(hv:loW s (W++[w]) k=loW s W k):mx s W w (k+1)=mx s W w k:=arr_ext fun i _=>by
 unfold mxF
 by_cases h:i<k
 ·simp[h,show i<k+1 from by omega]
 ·by_cases h2:i=k
  ·subst h2;simp[hv]
  ·simp[h,show¬i<k+1 from by omega]
theorem mx_len{s:Shop}{W:List (List Int)}{w:List Int}{k:Nat}:(mx s W w k).length=5:=arr_len
theorem lvT_len{s:Shop}{w:List Int}{k:Nat}:(lvT s w k).length=5:=arr_len
theorem lvT_take{s:Shop}{w:List Int}{k:Nat}:List.take 5 (List.map I (lvT s w k))=List.map I (lvT s w k):=List.take_of_length_le (by simp[lvT_len])
theorem lv_len{s:Shop}{w:List Int}:(lv s w).length=5:=arr_len
abbrev encL(s:Shop)(W:List (List Int)):List (List AV):=(W.map (lv s)).map fun l=>l.map I
theorem encL_nil{s:Shop}:encL s []=[]:=rfl
theorem encL_app{s:Shop}{W:List (List Int)}{w:List Int}:encL s (W++[w])=encL s W++[(lv s w).map I]:=by simp[encL]
abbrev cX(s:Shop):List AV:= .lst false 3 (s.ms.map encD):: .lst false 1 (s.ws.map encW)::lN s.wt:: .int .i64 s.fr:: .lst false 5 (encL s (aW s))::(su s (aW s)).map I
abbrev HO(s:Shop)(W:List (List Int)):Heap:=[.box 32 (cS s) false,.box 261 (.lst false 3 (s.ms.map encD):: .lst false 1 (s.ws.map encW)::lN s.wt:: .int .i64 s.fr:: .row 3 W.length::(su s W).map I) false,.box 252 [.lp 1 0] false,.row 259 5 (encL s W) false]
set_option maxHeartbeats 4000000 in
theorem c180(s:Shop)(hv:valid s)(hne:aW s≠[]):PC prog 180 [hS s,.bool true] (.tup [.pp (cX s),.int .i64 0]):=by
 have hl0: ¬((aW s).length:Int)=0:=by have:=List.length_pos_iff.2 hne;omega
 have hc:=check_valid hv
 have h5:=hv.2.1
 have h6:=hv.2.2.1
 have hal:=aW_len hv
 refine pB Tryz.func180 fun hlen=>CV.run ?_
 simp only[Tryz.f180]
 simp only[go_sem,length_map,and_true,true_and]at hlen
 repeat' first|refine sP ?_ ?_<;>intro hb<;>(try rw[hb])<;>(try simp only[bb]at hb)<;>(try simp only[within]at hb)<;>try simp only[go_sem,hc]|refine aI ?_|with_reducible refine dw sZ02j_f180 ?_|with_reducible refine cq (c56 _) ?_|with_reducible refine cq (c182 _) ?_|simp only[go_sem,hc]
 rw[vc_range_eq]
 refine CV.wn (st':=⟨[(24,.fn 199 [.pp (cS s)]),(7,.lp 2 0),(4,.nilP),(5,.int .i64 0),(2,.lp 0 0)],HO s (aT s 0)⟩) (.nilB 1 4 259 5 rfl rfl (by omega) (.base (by(first|exact wk_same (by simp only[go_sem,ic,su_nil,aT_zero,encL_nil])|(refine wk_drop ?_ ?_ ?_ ?_ ?_<;>simp only[go_sem,ic,su_nil,aT_zero,encL_nil]))))) ?_
 refine CV.rangeP rfl (by(simp only[go_sem])) (HO s (aW s)) rfl (by(simp only[go_sem])) (by(simp only[go_sem])) (fun l=>?_) ?_
 ·have h102:=fun ps assign body env0=>c199 s hv (fun n=>HO s (aT s n)) l 88 ps assign body env0
  rw[←aT_all (s:=s) (Nat.le_refl _)]
  refine h102 _ _ _ _ (fun n w hw ha=>?_) (fun n w hw ha=>by simp only[aT_no hw ha])
  have hal2:=aT_len s n
  have hn:=(List.getElem?_eq_some_iff.1 hw).1
  obtain⟨hwl,hwn⟩:=hv.world hw
  have hws:=mem_of_getElem? hw
  rw[aT_yes hw ha]
  generalize hW:aT s n=W at hal2 ⊢
  refine HCY.body2 (H:=HO s W) (H':=HO s (W++[w])) (by omega) (by omega) rfl (by(simp only[go_sem])) (by(simp only[go_sem])) rfl rfl ?_
  repeat' first|refine sP ?_ ?_<;>intro hb<;>(try rw[hb])<;>(try simp only[bb]at hb)<;>(try simp only[within]at hb)<;>try simp only[go_sem]|refine aI ?_|with_reducible refine dw sZ02j_f180 ?_|simp only[go_sem]
  refine vc_for (fun k=>⟨[(30,.int .i64 k),(29,.int .i64 s.ms.length),(28,.lst false 3 (s.ms.map encD)),(9,lN w),(10,.lp 4 0),(7,.lp 2 0),(2,.lp 0 0)],[.box 32 (cS s) false,.box 261 (.lst false 3 (s.ms.map encD):: .lst false 1 (s.ws.map encW)::lN s.wt:: .int .i64 s.fr:: .row 3 W.length::(mx s W w k).map I) false,.box 252 [.lp 1 0] false,.row 259 5 (encL s W) false,.box 259 ((lvT s w k).map I) false]⟩) s.ms.length (fun k=>True) (by(first|exact wk_same (by simp only[go_sem,ic,mx_zero,lvT_zero])|(refine wk_drop ?_ ?_ ?_ ?_ ?_<;>simp only[go_sem,ic,mx_zero,lvT_zero]))) trivial ?_
  intro k hk _
  rcases Nat.lt_or_ge k s.ms.length with hlt|hge
  ·obtain⟨m,hm⟩:=get_of hlt
   obtain⟨x,hx⟩:=get_of (l:=w) (j:=k) (by omega)
   have hlt':(k:Int)<s.ms.length:=by omega
   have hlt2':(k:Int)<w.length:=by omega
   have hk5:k<5:=by omega
   have hk5':(k:Int)<5:=by omega
   have hl:=hv.left hws k hlt
   have e0:lf s w k=x-m.used:=by unfold lf;rw[uo_of hm,gv_nat hx]
   have e1:=lvT_succ (s:=s) (w:=w) hk5
   rw[e0]at e1 hl
   have e2:(lvT s w (k+1))[k]? =some (x-m.used):=by rw[←e1,List.getElem?_set_self (by rw[lvT_len];exact hk5)]
   have e3:=mx_get (W:=W) (w:=w) hlt hk5
   have e4:=fun v=>mx_succ (W:=W) (w:=w) hlt hk5 (v:=v)
   have e5:=mx_same (s:=s) (W:=W) (w:=w) (k:=k)
   rw[loW_app]at e4 e5
   rw[e0]at e4 e5
   have hmxl:k<(mx s W w k).length:=by rw[mx_len];exact hk5
   have hlvl:k<(lvT s w k).length:=by rw[lvT_len];exact hk5
   repeat' first|refine sP ?_ ?_<;>intro hb<;>(try rw[hb])<;>(try simp only[bb]at hb)<;>(try simp only[within]at hb)<;>try simp only[go_sem,hlt',hlt2',hk5,hk5',hm,hx,encD,encN,put0,put5,hmxl,hlvl,e1,e2,e3,getI,Option.map_some,I,drop_head,Nat.mul_one,length_map,lvT_len,mx_len]|refine aI ?_|with_reducible refine dw sZ02j_f180 ?_|simp only[go_sem,hlt',hlt2',hk5,hk5',hm,hx,encD,encN,put0,put5,hmxl,hlvl,e1,e2,e3,getI,Option.map_some,I,drop_head,Nat.mul_one,length_map,lvT_len,mx_len]
   ·have e6:=e4 (x-m.used) (by split<;>omega)
    (first|exact wk_same (by simp only[go_sem,ic,e6])|(refine wk_drop ?_ ?_ ?_ ?_ ?_<;>simp only[go_sem,ic,e6]))
   ·have hW0:W=[]:=List.eq_nil_of_length_eq_zero (by omega)
    have e6:=e4 (x-m.used) (by rw[if_pos hW0])
    (first|exact wk_same (by simp only[go_sem,ic,e6])|(refine wk_drop ?_ ?_ ?_ ?_ ?_<;>simp only[go_sem,ic,e6]))
   ·have hW0: ¬W=[]:=fun h=>by rw[h]at hb;exact hb rfl
    have e6:=e5 (by rw[if_neg hW0];omega)
    (first|exact wk_same (by simp only[go_sem,ic,e6])|(refine wk_drop ?_ ?_ ?_ ?_ ?_<;>simp only[go_sem,ic,e6]))
  ·have hge': ¬(k:Int)<s.ms.length:=by omega
   have:k=s.ms.length:=by omega
   subst this
   have hWl:(encL s W).length=W.length:=by simp
   repeat' first|refine sP ?_ ?_<;>intro hb<;>(try rw[hb])<;>(try simp only[bb]at hb)<;>(try simp only[within]at hb)<;>try simp only[go_sem,hge',mx_full,hWl,length_map,lvT_len,lvT_take,drop_succ_cons,drop_zero,append_nil]|refine aI ?_|with_reducible refine dw sZ02j_f180 ?_|simp only[go_sem,hge',mx_full,hWl,length_map,lvT_len,lvT_take,drop_succ_cons,drop_zero,append_nil]
   exact .base (by(first|exact wk_same (by simp only[go_sem,ic,encL_app,lv,length_append,length_cons,length_nil])|(refine wk_drop ?_ ?_ ?_ ?_ ?_<;>simp only[go_sem,ic,encL_app,lv,length_append,length_cons,length_nil])))
 ·repeat' first|refine sP ?_ ?_<;>intro hb<;>(try rw[hb])<;>(try simp only[bb]at hb)<;>(try simp only[within]at hb)<;>try simp only[go_sem,hl0]|refine aI ?_|with_reducible refine dw sZ02j_f180 ?_|simp only[go_sem,hl0]
set_option maxHeartbeats 4000000 in
theorem c180n(s:Shop)(hv:valid s)(hne:aW s=[]):PC prog 180 [hS s,.bool true] (.tup [.nilP,.int .i64 3]):=by
 have hl0:((aW s).length:Int)=0:=by rw[hne];rfl
 have hc:=check_valid hv
 have h5:=hv.2.1
 have h6:=hv.2.2.1
 have hal:=aW_len hv
 refine pB Tryz.func180 fun hlen=>CV.run ?_
 simp only[Tryz.f180]
 simp only[go_sem,length_map,and_true,true_and]at hlen
 repeat' first|refine sP ?_ ?_<;>intro hb<;>(try rw[hb])<;>(try simp only[bb]at hb)<;>(try simp only[within]at hb)<;>try simp only[go_sem,hc]|refine aI ?_|with_reducible refine dw sZ02j_f180 ?_|with_reducible refine cq (c56 _) ?_|with_reducible refine cq (c182 _) ?_|simp only[go_sem,hc]
 rw[vc_range_eq]
 refine CV.wn (st':=⟨[(24,.fn 199 [.pp (cS s)]),(7,.lp 2 0),(4,.nilP),(5,.int .i64 0),(2,.lp 0 0)],HO s (aT s 0)⟩) (.nilB 1 4 259 5 rfl rfl (by omega) (.base (by(first|exact wk_same (by simp only[go_sem,ic,su_nil,aT_zero,encL_nil])|(refine wk_drop ?_ ?_ ?_ ?_ ?_<;>simp only[go_sem,ic,su_nil,aT_zero,encL_nil]))))) ?_
 refine CV.rangeP rfl (by(simp only[go_sem])) (HO s (aW s)) rfl (by(simp only[go_sem])) (by(simp only[go_sem])) (fun l=>?_) ?_
 ·have h102:=fun ps assign body env0=>c199 s hv (fun n=>HO s (aT s n)) l 88 ps assign body env0
  rw[←aT_all (s:=s) (Nat.le_refl _)]
  refine h102 _ _ _ _ (fun n w hw ha=>?_) (fun n w hw ha=>by simp only[aT_no hw ha])
  have hal2:=aT_len s n
  have hn:=(List.getElem?_eq_some_iff.1 hw).1
  obtain⟨hwl,hwn⟩:=hv.world hw
  have hws:=mem_of_getElem? hw
  rw[aT_yes hw ha]
  generalize hW:aT s n=W at hal2 ⊢
  refine HCY.body2 (H:=HO s W) (H':=HO s (W++[w])) (by omega) (by omega) rfl (by(simp only[go_sem])) (by(simp only[go_sem])) rfl rfl ?_
  repeat' first|refine sP ?_ ?_<;>intro hb<;>(try rw[hb])<;>(try simp only[bb]at hb)<;>(try simp only[within]at hb)<;>try simp only[go_sem]|refine aI ?_|with_reducible refine dw sZ02j_f180 ?_|simp only[go_sem]
  refine vc_for (fun k=>⟨[(30,.int .i64 k),(29,.int .i64 s.ms.length),(28,.lst false 3 (s.ms.map encD)),(9,lN w),(10,.lp 4 0),(7,.lp 2 0),(2,.lp 0 0)],[.box 32 (cS s) false,.box 261 (.lst false 3 (s.ms.map encD):: .lst false 1 (s.ws.map encW)::lN s.wt:: .int .i64 s.fr:: .row 3 W.length::(mx s W w k).map I) false,.box 252 [.lp 1 0] false,.row 259 5 (encL s W) false,.box 259 ((lvT s w k).map I) false]⟩) s.ms.length (fun k=>True) (by(first|exact wk_same (by simp only[go_sem,ic,mx_zero,lvT_zero])|(refine wk_drop ?_ ?_ ?_ ?_ ?_<;>simp only[go_sem,ic,mx_zero,lvT_zero]))) trivial ?_
  intro k hk _
  rcases Nat.lt_or_ge k s.ms.length with hlt|hge
  ·obtain⟨m,hm⟩:=get_of hlt
   obtain⟨x,hx⟩:=get_of (l:=w) (j:=k) (by omega)
   have hlt':(k:Int)<s.ms.length:=by omega
   have hlt2':(k:Int)<w.length:=by omega
   have hk5:k<5:=by omega
   have hk5':(k:Int)<5:=by omega
   have hl:=hv.left hws k hlt
   have e0:lf s w k=x-m.used:=by unfold lf;rw[uo_of hm,gv_nat hx]
   have e1:=lvT_succ (s:=s) (w:=w) hk5
   rw[e0]at e1 hl
   have e2:(lvT s w (k+1))[k]? =some (x-m.used):=by rw[←e1,List.getElem?_set_self (by rw[lvT_len];exact hk5)]
   have e3:=mx_get (W:=W) (w:=w) hlt hk5
   have e4:=fun v=>mx_succ (W:=W) (w:=w) hlt hk5 (v:=v)
   have e5:=mx_same (s:=s) (W:=W) (w:=w) (k:=k)
   rw[loW_app]at e4 e5
   rw[e0]at e4 e5
   have hmxl:k<(mx s W w k).length:=by rw[mx_len];exact hk5
   have hlvl:k<(lvT s w k).length:=by rw[lvT_len];exact hk5
   repeat' first|refine sP ?_ ?_<;>intro hb<;>(try rw[hb])<;>(try simp only[bb]at hb)<;>(try simp only[within]at hb)<;>try simp only[go_sem,hlt',hlt2',hk5,hk5',hm,hx,encD,encN,put0,put5,hmxl,hlvl,e1,e2,e3,getI,Option.map_some,I,drop_head,Nat.mul_one,length_map,lvT_len,mx_len]|refine aI ?_|with_reducible refine dw sZ02j_f180 ?_|simp only[go_sem,hlt',hlt2',hk5,hk5',hm,hx,encD,encN,put0,put5,hmxl,hlvl,e1,e2,e3,getI,Option.map_some,I,drop_head,Nat.mul_one,length_map,lvT_len,mx_len]
   ·have e6:=e4 (x-m.used) (by split<;>omega)
    (first|exact wk_same (by simp only[go_sem,ic,e6])|(refine wk_drop ?_ ?_ ?_ ?_ ?_<;>simp only[go_sem,ic,e6]))
   ·have hW0:W=[]:=List.eq_nil_of_length_eq_zero (by omega)
    have e6:=e4 (x-m.used) (by rw[if_pos hW0])
    (first|exact wk_same (by simp only[go_sem,ic,e6])|(refine wk_drop ?_ ?_ ?_ ?_ ?_<;>simp only[go_sem,ic,e6]))
   ·have hW0: ¬W=[]:=fun h=>by rw[h]at hb;exact hb rfl
    have e6:=e5 (by rw[if_neg hW0];omega)
    (first|exact wk_same (by simp only[go_sem,ic,e6])|(refine wk_drop ?_ ?_ ?_ ?_ ?_<;>simp only[go_sem,ic,e6]))
  ·have hge': ¬(k:Int)<s.ms.length:=by omega
   have:k=s.ms.length:=by omega
   subst this
   have hWl:(encL s W).length=W.length:=by simp
   repeat' first|refine sP ?_ ?_<;>intro hb<;>(try rw[hb])<;>(try simp only[bb]at hb)<;>(try simp only[within]at hb)<;>try simp only[go_sem,hge',mx_full,hWl,length_map,lvT_len,lvT_take,drop_succ_cons,drop_zero,append_nil]|refine aI ?_|with_reducible refine dw sZ02j_f180 ?_|simp only[go_sem,hge',mx_full,hWl,length_map,lvT_len,lvT_take,drop_succ_cons,drop_zero,append_nil]
   exact .base (by(first|exact wk_same (by simp only[go_sem,ic,encL_app,lv,length_append,length_cons,length_nil])|(refine wk_drop ?_ ?_ ?_ ?_ ?_<;>simp only[go_sem,ic,encL_app,lv,length_append,length_cons,length_nil])))
 ·repeat' first|refine sP ?_ ?_<;>intro hb<;>(try rw[hb])<;>(try simp only[bb]at hb)<;>(try simp only[within]at hb)<;>try simp only[go_sem,hl0]|refine aI ?_|with_reducible refine dw sZ02j_f180 ?_|simp only[go_sem,hl0]
def sZ02k_f180:Nat→List (Nat×Nat)
 |13=>[(0,0),(0,0),(0,0),(0,0),(0,0),(0,0),(0,0),(0,0),(0,0),(0,0)]
 |14=>[(0,0),(0,0),(0,0),(0,0),(0,0),(0,0),(0,0),(0,0),(0,0),(0,0),(0,0),(0,0),(0,0),(0,0),(0,0),(0,0),(0,0),(0,0)]
 |15=>[(0,0),(0,0),(0,0),(0,0),(0,0),(0,0),(0,0),(0,0),(0,0)]
 |17=>[(0,1),(0,0),(0,0),(0,0),(0,0),(0,0),(0,0),(0,0),(1,1),(1,1),(0,0)]
 |_=>[]
attribute [go_sem] sZ02k_f180
theorem o180{s:Shop}{is:Prop}{i:Decidable is}(h:kn s is=0):PC prog 180 [hS s,.bool (@decide is i)] (.tup [.pp (cX s),.int .i64 0]):=by
 obtain⟨hv,hi,hne⟩:=kn0.1 h
 rw[show @decide is i=true from by simp[hi]]
 exact c180 s hv hne
theorem n180{s:Shop}{is:Prop}{i:Decidable is}(h: ¬kn s is=0):PC prog 180 [hS s,.bool (@decide is i)] (.tup [.nilP,.int .i64 (kn s is)]):=by
 by_cases hv:valid s
 ·have hc:=check_valid hv
  by_cases hi:is
  ·have hne:aW s=[]:=Classical.byContradiction fun hq=>h (kn0.2 ⟨hv,hi,hq⟩)
   rw[show @decide is i=true from by simp[hi],show kn s is=3 from by simp[kn,hv,hi,hne]]
   exact c180n s hv hne
  ·rw[show @decide is i=false from by simp[hi],show kn s is=1 from by simp[kn,hv,hi]]
   refine pB Tryz.func180 fun hlen=>CV.run ?_
   simp only[Tryz.f180]
   simp only[go_sem,length_map,and_true,true_and]at hlen
   repeat' first|refine sP ?_ ?_<;>intro hb<;>(try rw[hb])<;>(try simp only[bb]at hb)<;>(try simp only[within]at hb)<;>try simp only[go_sem,hc]|refine aI ?_|with_reducible refine dw sZ02k_f180 ?_|with_reducible refine cq (c56 _) ?_|simp only[go_sem,hc]
 ·have hc:=check_no hv
  rw[show kn s is=20 from by simp[kn,hv]]
  refine pB Tryz.func180 fun hlen=>CV.run ?_
  simp only[Tryz.f180]
  simp only[go_sem,length_map,and_true,true_and]at hlen
  repeat' first|refine sP ?_ ?_<;>intro hb<;>(try rw[hb])<;>(try simp only[bb]at hb)<;>(try simp only[within]at hb)<;>try simp only[go_sem,hc]|refine aI ?_|with_reducible refine dw sZ02k_f180 ?_|with_reducible refine cq (c56 _) ?_|simp only[go_sem,hc]
  all_goals (exfalso;omega)
theorem su_get{s:Shop}(hv:valid s){k:Nat}(hk:k<s.ms.length):(su s (aW s))[k]? =some (lo s k):=by
 have h5:=hv.2.1
 rw[su,arr_get (by omega)]
 simp[suF,hk,lo]
theorem lv_get{s:Shop}(hv:valid s){w:List Int}{k:Nat}(hk:k<s.ms.length):(lv s w)[k]? =some (lf s w k):=by
 have h5:=hv.2.1
 rw[lv,lvT,arr_get (by omega)]
 simp[lvF,hk]
theorem encL_get{s:Shop}{W:List (List Int)}{j:Nat}{w:List Int}(h:W[j]? =some w):(encL s W)[j]? =some ((lv s w).map I):=by
 simp[h]
theorem encL_len{s:Shop}{W:List (List Int)}:(encL s W).length=W.length:=by simp
theorem c181(s:Shop)(hv:valid s)(p:Int):PC prog 181 [.pp (cX s),.int .i64 p] (.int .i64 (sur s p)):=by
 have h5:=hv.2.1
 refine pB Tryz.func181 fun hlen=>CV.run ?_
 simp only[Tryz.f181]
 simp only[go_sem,length_map,and_true,true_and]at hlen
 repeat' first|refine sP ?_ ?_<;>intro hb<;>(try rw[hb])<;>(try simp only[bb]at hb)<;>(try simp only[within]at hb)<;>try simp only[go_sem]|refine aI ?_|simp only[go_sem]
 refine vc_for (fun j=>⟨[(14,.int .i64 j),(5,.int .i64 (surT s p j)),(13,.int .i64 s.ms.length),(12,.lst false 3 (s.ms.map encD)),(4,.int .i64 0),(0,.pp (cX s)),(1,.int .i64 p)],[]⟩) s.ms.length (fun j=>True) (by(first|exact wk_same (by simp only[go_sem,ic,surT])|(refine wk_drop ?_ ?_ ?_ ?_ ?_<;>simp only[go_sem,ic,surT]))) trivial ?_
 intro j hj _
 have hb:=surT_bounds hv p j
 rcases Nat.lt_or_ge j s.ms.length with hlt|hge
 ·obtain⟨m,hm⟩:=get_of hlt
  have hlt':(j:Int)<s.ms.length:=by omega
  have hj5:(j:Int)<5:=by omega
  have hlb:=lo_bounds hv (W:=aW s) (fun w hw=>aW_mem hw) j hlt
  change 0≤lo s j∧lo s j≤12∧_ at hlb
  have hg:=su_get hv hlt
  by_cases hp:m.page=p
  ·have e:surT s p (j+1)=surT s p j+lo s j:=by simp[surT,sur1,hm,hp]
   repeat' first|refine sP ?_ ?_<;>intro hb<;>(try rw[hb])<;>(try simp only[bb]at hb)<;>(try simp only[within]at hb)<;>try simp only[go_sem,hlt',hm,hp,encD,hj5,hg,getI,drop_head,Option.map_some,I,Nat.mul_one]|refine aI ?_|simp only[go_sem,hlt',hm,hp,encD,hj5,hg,getI,drop_head,Option.map_some,I,Nat.mul_one]
   (first|exact wk_same (by simp only[go_sem,ic,e])|(refine wk_drop ?_ ?_ ?_ ?_ ?_<;>simp only[go_sem,ic,e]))
  ·have e:surT s p (j+1)=surT s p j:=by simp[surT,sur1,hm,hp]
   repeat' first|refine sP ?_ ?_<;>intro hb<;>(try rw[hb])<;>(try simp only[bb]at hb)<;>(try simp only[within]at hb)<;>try simp only[go_sem,hlt',hm,hp,encD]|refine aI ?_|simp only[go_sem,hlt',hm,hp,encD]
   (first|exact wk_same (by simp only[go_sem,ic,e])|(refine wk_drop ?_ ?_ ?_ ?_ ?_<;>simp only[go_sem,ic,e]))
 ·have hge': ¬(j:Int)<s.ms.length:=by omega
  have:j=s.ms.length:=by omega
  subst this
  repeat' first|refine sP ?_ ?_<;>intro hb<;>(try rw[hb])<;>(try simp only[bb]at hb)<;>(try simp only[within]at hb)<;>try simp only[go_sem,hge',sur]|refine aI ?_|simp only[go_sem,hge',sur]
theorem lv_take{s:Shop}{w:List Int}:List.take 5 (List.map I (lv s w))=List.map I (lv s w):=List.take_of_length_le (by simp[lv_len])
def sZ02l_f137(_:Nat):List (Nat×Nat):=[(0,0),(0,0),(0,0),(0,0),(0,0),(0,0),(0,0),(0,0),(0,0),(0,0),(0,0),(0,0),(0,0),(0,0),(0,0),(0,0)]
attribute [go_sem] sZ02l_f137
theorem o180t{s:Shop}(h:kn s True=0):PC prog 180 [hS s,.bool true] (.tup [.pp (cX s),.int .i64 0]):=by
 have:=o180 (i:=instDecidableTrue) h
 rwa[decide_true]at this
theorem n180t{s:Shop}(h: ¬kn s True=0):PC prog 180 [hS s,.bool true] (.tup [.nilP,.int .i64 (kn s True)]):=by
 have:=n180 (i:=instDecidableTrue) h
 rwa[decide_true]at this
set_option maxHeartbeats 1000000 in
theorem c137(s:Shop):PC prog 137 [hS s] (.tup [.int .i64 (rNew s).1,.int .i64 (rNew s).2]):=by
 by_cases hk:kn s True=0
 ·rw[show rNew s=_ from ans_yes hk]
  obtain⟨hv,_,hne⟩:=kn0.1 hk
  have hf:=hv.2.2.2.1
  unfold within at hf
  have h3:=hv.1
  refine pB Tryz.func137 fun hlen=>CV.run ?_
  simp only[Tryz.f137]
  simp only[go_sem,length_map,and_true,true_and]at hlen
  repeat' first|refine sP ?_ ?_<;>intro hb<;>(try rw[hb])<;>(try simp only[bb]at hb)<;>(try simp only[within]at hb)<;>try simp only[go_sem,hk]|refine aI ?_|with_reducible refine dw sZ02l_f137 ?_|with_reducible refine cq (o180t hk) ?_|simp only[go_sem,hk]
  refine vc_for (fun j=>⟨[(20,.int .i64 j),(19,.int .i64 s.wt.length),(18,lN s.wt),(6,.int .i64 (neT s j)),(4,.pp (cX s)),(2,.int .i64 0),(3,.int .i64 0),(1,.lp 0 0)],[.box 32 (cS s) false]⟩) s.wt.length (fun j=>True) (by(first|exact wk_same (by simp only[go_sem,ic,neT])|(refine wk_drop ?_ ?_ ?_ ?_ ?_<;>simp only[go_sem,ic,neT]))) trivial ?_
  intro j hj _
  have hb:=neT_bounds hv j
  rcases Nat.lt_or_ge j s.wt.length with hlt|hge
  ·obtain⟨w,hw⟩:=get_of hlt
   have hlt':(j:Int)<s.wt.length:=by omega
   have hwb:=hv.want hw
   have hsb:=sur_bounds hv (j:Int)
   have e1:ne1 s j=(max 0 (w-sur s j)+s.fr-1) / s.fr:=by simp[ne1,hw]
   have hKb:=ne1_bounds hv j
   have e:neT s (j+1)=neT s j+(max 0 (w-sur s j)+s.fr-1) / s.fr:=by simp only[neT,e1]
   rw[e1]at hKb
   repeat' first|refine sP ?_ ?_<;>intro hb<;>(try rw[hb])<;>(try simp only[bb]at hb)<;>(try simp only[within]at hb)<;>try simp only[go_sem,hlt',hw,encN]|refine aI ?_|with_reducible refine dw sZ02l_f137 ?_|with_reducible refine cq (c181 s hv j) ?_|simp only[go_sem,hlt',hw,encN]
   all_goals first
    |(first|exact wk_same (by simp only[go_sem,ic,e])|(refine wk_drop ?_ ?_ ?_ ?_ ?_<;>simp only[go_sem,ic,e]))
    |omega
  ·have hge': ¬(j:Int)<s.wt.length:=by omega
   have:j=s.wt.length:=by omega
   subst this
   repeat' first|refine sP ?_ ?_<;>intro hb<;>(try rw[hb])<;>(try simp only[bb]at hb)<;>(try simp only[within]at hb)<;>try simp only[go_sem,hge',neN]|refine aI ?_|with_reducible refine dw sZ02l_f137 ?_|simp only[go_sem,hge',neN]
 ·rw[show rNew s=_ from ans_no hk]
  refine pB Tryz.func137 fun hlen=>CV.run ?_
  simp only[Tryz.f137]
  simp only[go_sem,length_map,and_true,true_and]at hlen
  repeat' first|refine sP ?_ ?_<;>intro hb<;>(try rw[hb])<;>(try simp only[bb]at hb)<;>(try simp only[within]at hb)<;>try simp only[go_sem,hk]|refine aI ?_|with_reducible refine dw sZ02l_f137 ?_|with_reducible refine cq (n180t hk) ?_|simp only[go_sem,hk]
def bestI(n:Int):Int:=if n<0 then 0 else n
theorem bestI_0:bestI (-1)=0:=rfl
theorem h69(l:List Int)(hl:l.length≤1000):HCH prog 69 [lN l] [] fun r H'=>r= .row 0 l.length∧H'=[.row 3 1 (l.map encN) false]:=by
 refine HCH.bodyN Tryz.func69 (by kernel_rfl) rfl (by simp[Tryz.f69]) ?_
 simp only[Tryz.f69]
 refine CV.run ?_
 repeat' first|refine sP ?_ ?_<;>intro hb<;>(try rw[hb])<;>(try simp only[bb]at hb)<;>(try simp only[within]at hb)<;>try simp only[go_sem]|refine aI ?_|simp only[go_sem]
 ·have:l=[]:=by simpa using hb
  subst this
  exact⟨_,.nilE 2 3 1 (by(simp only[go_sem])) (by omega) (.base (wk_same (env':=[(2,.row 0 0)]) (by(simp only[go_sem])))),rfl,rfl⟩
 ·exact⟨⟨by omega,by omega,.inl trivial⟩,_,.base (wk_same (env':=[(2,.row 0 l.length)]) (by(simp only[go_sem]))),rfl,rfl⟩
def sZ02s_f28:Nat→List (Nat×Nat)
 |1=>[(0,0),(0,0),(0,0),(0,0),(0,1),(0,1),(0,1),(0,0),(0,2),(0,2),(2,2),(0,2),(0,0)]
 |5=>[(0,2),(0,2),(0,0),(0,0),(0,0),(0,0),(0,0),(0,0),(99,0),(0,0),(0,0),(3,3),(0,0)]
 |_=>[]
def sZ02s_f54(_:Nat):List (Nat×Nat):=[(0,0),(0,1),(0,0),(0,0)]
attribute [go_sem] sZ02s_f28 sZ02s_f54
theorem shift_mapD{n:Nat}{l:List Mould}:List.map (shiftL n) (List.map encD l)=List.map encD l:=by
 rw[map_map];exact map_congr_left fun a _=>by simp[encD,shiftL,shiftV]
theorem shift_mapW{n:Nat}{l:List (List Int)}:List.map (shiftL n) (List.map encW l)=List.map encW l:=by
 rw[map_map];exact map_congr_left fun a _=>by simp[encW,shiftL,shiftV]
theorem sub_mapD{b n:Nat}{v:AV}{l:List Mould}:List.map (subL b n v) (List.map encD l)=List.map encD l:=by
 rw[map_map];exact map_congr_left fun a _=>by simp[encD,subL,subV]
theorem sub_mapW{b n:Nat}{v:AV}{l:List (List Int)}:List.map (subL b n v) (List.map encW l)=List.map encW l:=by
 rw[map_map];exact map_congr_left fun a _=>by simp[encW,subL,subV]
attribute [go_sem] shift_mapD shift_mapW sub_mapD sub_mapW
theorem not_huge{s:Shop}(h: ¬huge s):s.ms.length≤40∧s.ws.length≤40∧s.wt.length≤40∧ ∀w,w∈s.ws→w.length≤40:=by
 unfold huge at h
 refine⟨by omega,by omega,by omega,fun w hw=>?_⟩
 have: ¬40<w.length:=fun h2=>h (.inr (.inr (.inr ⟨w,hw,h2⟩)))
 omega
abbrev cpC(s:Shop)(n:Nat):List AV:=[.row 2 s.ms.length,.row 5 n,.row 3 s.wt.length,.int .i64 s.fr]
abbrev cpV(s:Shop):AV:= .agg (cpC s s.ws.length)
abbrev cpH(s:Shop):Heap:=[.box 32 (cS s) false,.box 32 (cpC s s.ws.length) false,.row 113 3 (s.ms.map encD) false,.row 3 1 (s.wt.map encN) false,.box 32 (cpC s s.ws.length) false,.row 24 1 (s.ws.map encW) false]
set_option maxHeartbeats 1000000 in
theorem h28(s:Shop)(h: ¬huge s):HCH prog 28 [hS s] [] fun r H'=>r=cpV s∧H'=cpH s:=by
 obtain⟨hl1,hl2,hl3,hl4⟩:=not_huge h
 refine HCH.body Tryz.func28 (by kernel_rfl) rfl (by simp[Tryz.f28]) ?_
 simp only[Tryz.f28]
 refine CV.run ?_
 repeat' first|refine sP ?_ ?_<;>intro hb<;>(try rw[hb])<;>(try simp only[bb]at hb)<;>(try simp only[within]at hb)<;>try simp only[go_sem,nil_append]|refine aI ?_|with_reducible refine dw sZ02s_f28 ?_|simp only[go_sem,nil_append]
 refine⟨⟨by omega,by omega,.inl trivial⟩,?_⟩
 refine⟨⟨by omega,by omega,.inl trivial⟩,?_⟩
 repeat' first|refine sP ?_ ?_<;>intro hb<;>(try rw[hb])<;>(try simp only[bb]at hb)<;>(try simp only[within]at hb)<;>try simp only[go_sem,nil_append]|refine aI ?_|with_reducible refine dw sZ02s_f28 ?_|simp only[go_sem,nil_append]
 refine vc_fw (fun j=>⟨[(4,.int .i64 j),(1,.lp 0 0),(2,.lp 1 0),(3,.lp 4 0)],[.box 32 (cS s) false,.box 32 [.nilS,.nilS,.nilS,.int .i64 0] false,.row 113 3 (s.ms.map encD) false,.row 3 1 (s.wt.map encN) false,.box 32 (cpC s j) false,.row 24 1 ((s.ws.take j).map encW) false]⟩) s.ws.length (fun _=>True) (.nilB 4 1 24 1 rfl rfl (by omega) (.base (by(first|exact wk_same (by simp only[go_sem,ic,take_zero,map_nil])|(refine wk_drop ?_ ?_ ?_ ?_ ?_<;>simp only[go_sem,ic,take_zero,map_nil]))))) trivial ?_
 intro j hj _
 rcases Nat.lt_or_ge j s.ws.length with hlt|hge
 ·obtain⟨w,hw⟩:=get_of hlt
  have hlt':(j:Int)<s.ws.length:=by omega
  have hwl:=hl4 w (mem_of_getElem? hw)
  have e:=take_succ hw
  have htl:((s.ws.take j).map encW).length=j:=by rw[length_map,List.length_take];omega
  repeat' first|refine sP ?_ ?_<;>intro hb<;>(try rw[hb])<;>(try simp only[bb]at hb)<;>(try simp only[within]at hb)<;>try simp only[go_sem,hlt',hw,encW,htl,false_and,if_false,true_or,and_true]|refine aI ?_|with_reducible refine dw sZ02s_f28 ?_|simp only[go_sem,hlt',hw,encW,htl,false_and,if_false,true_or,and_true]
  exact .base (by(first|exact wk_same (by simp only[go_sem,ic,e,encW,map_append])|(refine wk_drop ?_ ?_ ?_ ?_ ?_<;>simp only[go_sem,ic,e,encW,map_append])))
 ·have hge': ¬(j:Int)<s.ws.length:=by omega
  have:j=s.ws.length:=by omega
  subst this
  have e:s.ws.take s.ws.length=s.ws:=List.take_length
  repeat' first|refine sP ?_ ?_<;>intro hb<;>(try rw[hb])<;>(try simp only[bb]at hb)<;>(try simp only[within]at hb)<;>try simp only[go_sem,hge',e,encW]|refine aI ?_|with_reducible refine dw sZ02s_f28 ?_|simp only[go_sem,hge',e,encW]
set_option maxHeartbeats 1000000 in
theorem c28(s:Shop)(h: ¬huge s):PC prog 28 [hS s] (hS s):=by
 obtain⟨hl1,hl2,hl3,hl4⟩:=not_huge h
 refine pB Tryz.func28 fun hlen=>CV.run ?_
 simp only[Tryz.f28]
 simp only[go_sem,length_map,and_true,true_and]at hlen
 repeat' first|refine sP ?_ ?_<;>intro hb<;>(try rw[hb])<;>(try simp only[bb]at hb)<;>(try simp only[within]at hb)<;>try simp only[go_sem,nil_append]|refine aI ?_|with_reducible refine dw sZ02s_f28 ?_|simp only[go_sem,nil_append]
 refine⟨⟨by omega,by omega,.inl trivial⟩,?_⟩
 refine⟨⟨by omega,by omega,.inl trivial⟩,?_⟩
 repeat' first|refine sP ?_ ?_<;>intro hb<;>(try rw[hb])<;>(try simp only[bb]at hb)<;>(try simp only[within]at hb)<;>try simp only[go_sem,nil_append]|refine aI ?_|with_reducible refine dw sZ02s_f28 ?_|simp only[go_sem,nil_append]
 refine vc_fw (fun j=>⟨[(4,.int .i64 j),(1,.lp 0 0),(2,.lp 1 0),(3,.lp 4 0)],[.box 32 (cS s) false,.box 32 [.nilS,.nilS,.nilS,.int .i64 0] false,.row 113 3 (s.ms.map encD) false,.row 3 1 (s.wt.map encN) false,.box 32 (cpC s j) false,.row 24 1 ((s.ws.take j).map encW) false]⟩) s.ws.length (fun _=>True) (.nilB 4 1 24 1 rfl rfl (by omega) (.base (by(first|exact wk_same (by simp only[go_sem,ic,take_zero,map_nil])|(refine wk_drop ?_ ?_ ?_ ?_ ?_<;>simp only[go_sem,ic,take_zero,map_nil]))))) trivial ?_
 intro j hj _
 rcases Nat.lt_or_ge j s.ws.length with hlt|hge
 ·obtain⟨w,hw⟩:=get_of hlt
  have hlt':(j:Int)<s.ws.length:=by omega
  have hwl:=hl4 w (mem_of_getElem? hw)
  have e:=take_succ hw
  have htl:((s.ws.take j).map encW).length=j:=by rw[length_map,List.length_take];omega
  repeat' first|refine sP ?_ ?_<;>intro hb<;>(try rw[hb])<;>(try simp only[bb]at hb)<;>(try simp only[within]at hb)<;>try simp only[go_sem,hlt',hw,encW,htl,false_and,if_false,true_or,and_true]|refine aI ?_|with_reducible refine dw sZ02s_f28 ?_|simp only[go_sem,hlt',hw,encW,htl,false_and,if_false,true_or,and_true]
  exact .base (by(first|exact wk_same (by simp only[go_sem,ic,e,encW,map_append])|(refine wk_drop ?_ ?_ ?_ ?_ ?_<;>simp only[go_sem,ic,e,encW,map_append])))
 ·have hge': ¬(j:Int)<s.ws.length:=by omega
  have:j=s.ws.length:=by omega
  subst this
  have e:s.ws.take s.ws.length=s.ws:=List.take_length
  repeat' first|refine sP ?_ ?_<;>intro hb<;>(try rw[hb])<;>(try simp only[bb]at hb)<;>(try simp only[within]at hb)<;>try simp only[go_sem,hge',e,encW]|refine aI ?_|with_reducible refine dw sZ02s_f28 ?_|simp only[go_sem,hge',e,encW]
theorem c90(a b c:Int):PC prog 90 [.int .i64 a,.int .i64 b,.int .i64 c] (.agg [.int .i64 a,.int .i64 b,.int .i64 c]):=by
 refine pB Tryz.func90 fun hlen=>CV.run ?_
 simp only[Tryz.f90]
 simp only[go_sem,length_map,and_true,true_and]at hlen
 repeat' first|refine sP ?_ ?_<;>intro hb<;>(try rw[hb])<;>(try simp only[bb]at hb)<;>(try simp only[within]at hb)<;>try simp only[go_sem]|refine aI ?_|simp only[go_sem]
def exS:Shop:=⟨[⟨0,3,0⟩,⟨0,5,0⟩,⟨1,2,1⟩,⟨1,0,0⟩],[[8,9,2,4],[6,9,2,6],[12,7,2,3],[9,9,4,9]],[5,3],6⟩
def exT:Shop:=⟨[⟨0,3,0⟩,⟨0,5,0⟩,⟨1,2,1⟩,⟨1,0,0⟩],[[8,9,2,4],[6,9,2,6],[12,7,2,3],[9,9,4,9]],[6,3],6⟩
theorem exS_valid:valid exS:=⟨by decide,by decide,by decide,⟨by decide,by decide⟩,by simp[exS,within],by simp[exS,okM,within],by simp[exS,okW,within]⟩
def exR:AV:= .agg [.lst false 3 [[.int .i64 0,.int .i64 3,.int .i64 0],[.int .i64 0,.int .i64 5,.int .i64 0],[.int .i64 1,.int .i64 2,.int .i64 1],[.int .i64 1,.int .i64 0,.int .i64 0]],.lst false 1 [[.lst true 1 [[.int .i64 8],[.int .i64 9],[.int .i64 2],[.int .i64 4]]],[.lst true 1 [[.int .i64 6],[.int .i64 9],[.int .i64 2],[.int .i64 6]]],[.lst true 1 [[.int .i64 12],[.int .i64 7],[.int .i64 2],[.int .i64 3]]],[.lst true 1 [[.int .i64 9],[.int .i64 9],[.int .i64 4],[.int .i64 9]]]],.lst false 1 [[.int .i64 5],[.int .i64 3]],.int .i64 6]
set_option maxHeartbeats 1000000 in
theorem c54:PC prog 54 [] (.tup [exR,hS exT]):=by
 have hcp:=h28 exS exS_valid.small
 simp only[cpV,cpC,cpH,exS,encD,encW,encN,map_cons,map_nil,length_cons,length_nil]at hcp
 simp only[exR]
 refine pB Tryz.func54 fun hlen=>CV.run ?_
 simp only[Tryz.f54]
 simp only[go_sem,length_map,and_true,true_and]at hlen
 repeat' first|refine sP ?_ ?_<;>intro hb<;>(try rw[hb])<;>(try simp only[bb]at hb)<;>(try simp only[within]at hb)<;>try simp only[go_sem]|refine aI ?_|with_reducible refine dw sZ02s_f54 ?_|with_reducible refine cq (c90 _ _ _) ?_|simp only[go_sem]
 refine vcP_new (HCH.lo hcp rfl) rfl ?_
 repeat' first|refine sP ?_ ?_<;>intro hb<;>(try rw[hb])<;>(try simp only[bb]at hb)<;>(try simp only[within]at hb)<;>try simp only[go_sem,map_cons,map_nil,List.cons_append,nil_append,length_cons,length_nil,exT,encD,encW,encN]|refine aI ?_|with_reducible refine dw sZ02s_f54 ?_|simp only[go_sem,map_cons,map_nil,List.cons_append,nil_append,length_cons,length_nil,exT,encD,encW,encN]
end Go.Proofs.YtoadkchhimojlaaGreatDoor.W2
