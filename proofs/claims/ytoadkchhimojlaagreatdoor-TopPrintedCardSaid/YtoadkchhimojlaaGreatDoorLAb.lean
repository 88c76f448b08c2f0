/- Contracts of functions of the given program, without a condition beyond those that each theorem states; they lead to the given statement. -/
import Derived.Test.YtoadkchhimojlaaGreatDoorLAa
import Derived.Test.YtoadkchhimojlaaGreatDoorFlC
set_option linter.unusedSectionVars false
set_option linter.unusedSimpArgs false
set_option linter.unusedVariables false
set_option maxRecDepth 100000
open List(append_nil cons_append drop_length drop_succ_cons drop_zero length_map length_set map_cons map_nil mem_of_getElem? nil_append take_add_one take_succ_cons take_zero)
open Go.Proofs.Tryz(prog)
namespace Go.Proofs.YtoadkchhimojlaaGreatDoor
open Go Go.Fl
open Classical
structure Mach where
 ready:Int
 pace:Int
 stops:Int
structure Bun where
 train:Int
 hund:Int
 ed:Int
structure House where
 ms:List Mach
 bs:List Bun
 ts:List Int
 ch:Int
def encM(m:Mach):List AV:=[.int .i64 m.ready,.int .i64 m.pace,.int .i64 m.stops]
def encB(b:Bun):List AV:=[.int .i64 b.train,.int .i64 b.hund,.int .i64 b.ed]
theorem pureM(l:List Mach):pureE (l.map encM)=True:=pureE_map fun _=>rfl
theorem pureB(l:List Bun):pureE (l.map encB)=True:=pureE_map fun _=>rfl
abbrev cG(h:House):List AV:=[.lst false 3 (h.ms.map encM),.lst false 3 (h.bs.map encB),lN h.ts,.int .i64 h.ch]
abbrev hG(h:House):AV:= .agg (cG h)
theorem e400:((40:Int)=0)=False:=by simp
attribute [go_sem] pureM pureB e400
theorem c73(n lo hi:Int):PC prog 73 [.int .i64 n,.int .i64 lo,.int .i64 hi] (.bool (decide (within n lo hi))):=by
 refine pB Tryz.func73 fun hlen=>CV.run ?_
 simp only[Tryz.f73]
 simp only[go_sem,length_map,and_true,true_and]at hlen
 repeat' first|refine sP ?_ ?_<;>intro hb<;>(try rw[hb])<;>(try simp only[bb]at hb)<;>(try simp only[within]at hb)<;>try simp only[go_sem]|refine aI ?_|simp only[go_sem]
 ·simp[within,hb]
 ·exact bf fun h=>absurd h.1 (by omega)
theorem c48(n lo hi:Int):PC prog 48 [.int .i64 n,.int .i64 lo,.int .i64 hi] (.bool (decide (within n lo hi))):=by
 refine pB Tryz.func48 fun hlen=>CV.run ?_
 simp only[Tryz.f48]
 simp only[go_sem,length_map,and_true,true_and]at hlen
 repeat' first|refine sP ?_ ?_<;>intro hb<;>(try rw[hb])<;>(try simp only[bb]at hb)<;>(try simp only[within]at hb)<;>try simp only[go_sem]|refine aI ?_|with_reducible refine cq (c73 _ _ _) ?_|simp only[go_sem]
theorem c92(n lo hi:Int):PC prog 92 [.int .i64 n,.int .i64 lo,.int .i64 hi] (.bool (decide (within n lo hi))):=by
 refine pB Tryz.func92 fun hlen=>CV.run ?_
 simp only[Tryz.f92]
 simp only[go_sem,length_map,and_true,true_and]at hlen
 repeat' first|refine sP ?_ ?_<;>intro hb<;>(try rw[hb])<;>(try simp only[bb]at hb)<;>(try simp only[within]at hb)<;>try simp only[go_sem]|refine aI ?_|simp only[go_sem]
 ·simp[within,hb]
 ·exact bf fun h=>absurd h.1 (by omega)
theorem c49(h:House)(n:Int):PC prog 49 [hG h,.int .i64 n] (.bool (decide (within n 0 (h.ts.length-1)))):=by
 refine pB Tryz.func49 fun hlen=>CV.run ?_
 simp only[Tryz.f49]
 simp only[go_sem,length_map,and_true,true_and]at hlen
 repeat' first|refine sP ?_ ?_<;>intro hb<;>(try rw[hb])<;>(try simp only[bb]at hb)<;>(try simp only[within]at hb)<;>try simp only[go_sem]|refine aI ?_|with_reducible refine cq (c48 _ _ _) ?_|simp only[go_sem]
theorem c99(h:House)(n:Int):PC prog 99 [hG h,.int .i64 n] (.bool (decide (within n 0 (h.ts.length-1)))):=by
 refine pB Tryz.func99 fun hlen=>CV.run ?_
 simp only[Tryz.f99]
 simp only[go_sem,length_map,and_true,true_and]at hlen
 repeat' first|refine sP ?_ ?_<;>intro hb<;>(try rw[hb])<;>(try simp only[bb]at hb)<;>(try simp only[within]at hb)<;>try simp only[go_sem]|refine aI ?_|with_reducible refine cq (c92 _ _ _) ?_|simp only[go_sem]
def okMa(m:Mach):Prop:=within m.ready 0 99∧within m.pace 1 9∧within m.stops 0 1
def okBu(h:House)(b:Bun):Prop:=within b.train 0 (h.ts.length-1)∧within b.hund 1 9∧within b.ed 0 3
def okG(h:House):Prop:=1≤h.ms.length∧h.ms.length≤3∧h.ts.length≤4∧h.bs.length≤5∧within h.ch 0 9∧(∀m,m∈h.ms→okMa m)∧(∀t,t∈h.ts→within t 0 99)∧ ∀b,b∈h.bs→okBu h b
noncomputable def checkG(h:House):Int:=if okG h then 0 else 40
theorem ckG0{h:House}(q:okG h):AV.int .i64 0= .int .i64 (checkG h):=by simp[checkG,q]
theorem ckG4{h:House}(q: ¬okG h):AV.int .i64 40= .int .i64 (checkG h):=by simp[checkG,q]
theorem checkG0{h:House}:(checkG h=0)=okG h:=by unfold checkG;split<;>simp_all
theorem not_okG{h:House}(q:h.ms.length<1∨3<h.ms.length∨4<h.ts.length∨5<h.bs.length∨ ¬within h.ch 0 9): ¬okG h:=fun k=>by
 obtain⟨k1,k2,k3,k4,k5,_⟩:=k
 rcases q with q|q|q|q|q
 ·omega
 ·omega
 ·omega
 ·omega
 ·exact q k5
set_option maxHeartbeats 1000000 in
theorem c17(h:House):PC prog 17 [hG h] (.int .i64 (checkG h)):=by
 refine pB Tryz.func17 fun hlen=>CV.run ?_
 simp only[Tryz.f17]
 simp only[go_sem,length_map,and_true,true_and]at hlen
 repeat' first|refine sP ?_ ?_<;>intro hb<;>(try rw[hb])<;>(try simp only[bb]at hb)<;>(try simp only[within]at hb)<;>try simp only[go_sem]|refine aI ?_|with_reducible refine cq (c48 _ _ _) ?_|simp only[go_sem]
 all_goals try exact ckG4 (not_okG (by unfold within;omega))
 have hch:within h.ch 0 9:=by unfold within;omega
 refine vc_for (fun j=>⟨[(3,.int .i64 j),(2,.int .i64 0),(1,.lp 0 0)],[.box 26 (cG h) false]⟩) h.ms.length (fun j=>allTo (fun _ m=>okMa m) h.ms j) (by exact w0) .zero ?_
 intro j hj hx
 rcases Nat.lt_or_ge j h.ms.length with hlt|hge
 ·obtain⟨m,hm⟩:=get_of hlt
  have hlt':(j:Int)<h.ms.length:=by omega
  repeat' first|refine sP ?_ ?_<;>intro hb<;>(try rw[hb])<;>(try simp only[bb]at hb)<;>(try simp only[within]at hb)<;>try simp only[go_sem,hlt',hm,encM]|refine aI ?_|with_reducible refine cq (c48 _ _ _) ?_|simp only[go_sem,hlt',hm,encM]
  all_goals first
   |exact ckG4 (h:=h) fun q=>absurd (q.2.2.2.2.2.1 m (mem_of_getElem? hm)) (by unfold okMa within;omega)
   |exact⟨by exact w0,hx.succ hm (by unfold okMa within;omega)⟩
 have hmm:=hx.mem hge
 have hge': ¬(j:Int)<h.ms.length:=by omega
 repeat' first|refine sP ?_ ?_<;>intro hb<;>(try rw[hb])<;>(try simp only[bb]at hb)<;>(try simp only[within]at hb)<;>try simp only[go_sem,hge']|refine aI ?_|simp only[go_sem,hge']
 refine vc_for (fun j=>⟨[(5,.int .i64 j),(2,.int .i64 0),(1,.lp 0 0)],[.box 26 (cG h) false]⟩) h.ts.length (fun j=>allTo (fun _ n=>within n 0 99) h.ts j) (by exact w0) .zero ?_
 intro k hk hy
 rcases Nat.lt_or_ge k h.ts.length with hlt|hge2
 ·obtain⟨n,hn⟩:=get_of hlt
  have hlt':(k:Int)<h.ts.length:=by omega
  repeat' first|refine sP ?_ ?_<;>intro hb<;>(try rw[hb])<;>(try simp only[bb]at hb)<;>(try simp only[within]at hb)<;>try simp only[go_sem,hlt',hn,encN]|refine aI ?_|with_reducible refine cq (c48 _ _ _) ?_|simp only[go_sem,hlt',hn,encN]
  ·exact ckG4 (h:=h) fun q=>absurd (q.2.2.2.2.2.2.1 n (mem_of_getElem? hn)) (by unfold within;omega)
  ·exact⟨by exact w0,hy.succ hn (by unfold within;omega)⟩
 have htt:=hy.mem hge2
 have hge2': ¬(k:Int)<h.ts.length:=by omega
 repeat' first|refine sP ?_ ?_<;>intro hb<;>(try rw[hb])<;>(try simp only[bb]at hb)<;>(try simp only[within]at hb)<;>try simp only[go_sem,hge2']|refine aI ?_|simp only[go_sem,hge2']
 refine vc_for (fun j=>⟨[(6,.int .i64 j),(2,.int .i64 0),(1,.lp 0 0)],[.box 26 (cG h) false]⟩) h.bs.length (fun j=>allTo (fun _ b=>okBu h b) h.bs j) (by exact w0) .zero ?_
 intro i hi hz
 rcases Nat.lt_or_ge i h.bs.length with hlt|hge3
 ·obtain⟨b,hbb⟩:=get_of hlt
  have hlt':(i:Int)<h.bs.length:=by omega
  repeat' first|refine sP ?_ ?_<;>intro hb<;>(try rw[hb])<;>(try simp only[bb]at hb)<;>(try simp only[within]at hb)<;>try simp only[go_sem,hlt',hbb,encB]|refine aI ?_|with_reducible refine cq (c48 _ _ _) ?_|with_reducible refine cq (c49 h _) ?_|simp only[go_sem,hlt',hbb,encB]
  all_goals first
   |exact ckG4 (h:=h) fun q=>absurd (q.2.2.2.2.2.2.2 b (mem_of_getElem? hbb)) (by unfold okBu within;omega)
   |exact⟨by exact w0,hz.succ hbb (by unfold okBu within;omega)⟩
 ·have hge3': ¬(i:Int)<h.bs.length:=by omega
  repeat' first|refine sP ?_ ?_<;>intro hb<;>(try rw[hb])<;>(try simp only[bb]at hb)<;>(try simp only[within]at hb)<;>try simp only[go_sem,hge3']|refine aI ?_|simp only[go_sem,hge3']
  exact ckG0 ⟨by omega,by omega,by omega,by omega,hch,hmm,htt,hz.mem hge3⟩
theorem c91(n:Int):PC prog 91 [.int .i64 n] (.bool (decide (within n 0 99))):=by
 refine pB Tryz.func91 fun hlen=>CV.run ?_
 simp only[Tryz.f91]
 simp only[go_sem,length_map,and_true,true_and]at hlen
 repeat' first|refine sP ?_ ?_<;>intro hb<;>(try rw[hb])<;>(try simp only[bb]at hb)<;>(try simp only[within]at hb)<;>try simp only[go_sem]|refine aI ?_|with_reducible refine cq (c92 _ _ _) ?_|simp only[go_sem]
theorem c94(n:Int):PC prog 94 [.int .i64 n,.pp [.fn 91 []]] (.bool (decide (¬within n 0 99))):=by
 refine pB Tryz.func94 fun hlen=>CV.run ?_
 simp only[Tryz.f94]
 simp only[go_sem,length_map,and_true,true_and]at hlen
 repeat' first|refine sP ?_ ?_<;>intro hb<;>(try rw[hb])<;>(try simp only[bb]at hb)<;>(try simp only[within]at hb)<;>try simp only[go_sem]|refine aI ?_|with_reducible refine cq (c91 _) ?_|simp only[go_sem]
 exact bn (by simp)
theorem c96(m:Mach):PC prog 96 [.agg (encM m),.pp [.fn 91 []]] (.bool (decide (¬okMa m))):=by
 simp only[encM]
 refine pB Tryz.func96 fun hlen=>CV.run ?_
 simp only[Tryz.f96]
 simp only[go_sem,length_map,and_true,true_and]at hlen
 repeat' first|refine sP ?_ ?_<;>intro hb<;>(try rw[hb])<;>(try simp only[bb]at hb)<;>(try simp only[within]at hb)<;>try simp only[go_sem]|refine aI ?_|with_reducible refine cq (c91 _) ?_|with_reducible refine cq (c92 _ _ _) ?_|simp only[go_sem]
 all_goals first
  |exact bt (p:= ¬okMa m) (by unfold okMa within;omega)
  |exact bn (by unfold okMa within;omega)
theorem c98(h:House)(b:Bun):PC prog 98 [.agg (encB b),.pp (cG h)] (.bool (decide (¬okBu h b))):=by
 simp only[encB]
 refine pB Tryz.func98 fun hlen=>CV.run ?_
 simp only[Tryz.f98]
 simp only[go_sem,length_map,and_true,true_and]at hlen
 repeat' first|refine sP ?_ ?_<;>intro hb<;>(try rw[hb])<;>(try simp only[bb]at hb)<;>(try simp only[within]at hb)<;>try simp only[go_sem]|refine aI ?_|with_reducible refine cq (c99 h _) ?_|with_reducible refine cq (c92 _ _ _) ?_|simp only[go_sem]
 all_goals first
  |exact bt (p:= ¬okBu h b) (by unfold okBu within;omega)
  |exact bn (by unfold okBu within;omega)
theorem c163(l:List Int)(g:Nat)(cs:List AV)(hcp:AV.pureL cs=true)(q:Int→Prop)(hf: ∀n,n∈l→PC prog g [.int .i64 n,.pp cs] (.bool (decide (q n)))):PC prog 163 [lN l,.fn g [.pp cs]] (.int .i64 (ix q l)):=by
 have hfz:=frzL_self [] cs hcp
 refine pB Tryz.func163 fun hlen=>CV.run ?_
 simp only[Tryz.f163]
 simp only[go_sem,length_map,and_true,true_and]at hlen
 repeat' first|refine sP ?_ ?_<;>intro hb<;>(try rw[hb])<;>(try simp only[bb]at hb)<;>(try simp only[within]at hb)<;>try simp only[go_sem,hfz]|refine aI ?_|simp only[go_sem,hfz]
 refine vc_for (fun j=>⟨[(8,.int .i64 j),(7,.int .i64 l.length),(4,.int .i64 0),(0,lN l),(1,.fn g [.pp cs])],[]⟩) l.length (fun j=> ∀i,i<j→ ∀b,l[i]? =some b→ ¬q b) (by exact w0) (fun i h=>by omega) ?_
 intro j hj hx
 rcases Nat.lt_or_ge j l.length with hlt|hge
 ·obtain⟨m,hm⟩:=get_of hlt
  have hlt':(j:Int)<l.length:=by omega
  have hfm:=hf m (mem_of_getElem? hm)
  repeat' first|refine sP ?_ ?_<;>intro hb<;>(try rw[hb])<;>(try simp only[bb]at hb)<;>(try simp only[within]at hb)<;>try simp only[go_sem,hlt',hm,encN,hfz]|refine aI ?_|with_reducible refine cq hfm ?_|simp only[go_sem,hlt',hm,encN,hfz]
  ·rw[ix_at ⟨⟨m,hm,hb⟩,hx⟩]
  ·refine⟨by exact w0,fun i hi b hib=>?_⟩
   rcases Nat.lt_or_ge i j with h|h
   ·exact hx i h b hib
   ·have:i=j:=by omega
    subst this
    rw[hm]at hib;cases hib;exact hb
 ·have hge': ¬(j:Int)<l.length:=by omega
  repeat' first|refine sP ?_ ?_<;>intro hb<;>(try rw[hb])<;>(try simp only[bb]at hb)<;>(try simp only[within]at hb)<;>try simp only[go_sem,hge']|refine aI ?_|simp only[go_sem,hge']
  rw[ix_no (fun i b hb=>hx i (by have:=(List.getElem?_eq_some_iff.1 hb).1;omega) b hb)]
theorem c93(l:List Int)(g:Nat)(cs:List AV)(hcp:AV.pureL cs=true)(q:Int→Prop)(hf: ∀n,n∈l→PC prog g [.int .i64 n,.pp cs] (.bool (decide (q n)))):PC prog 93 [lN l,.fn g [.pp cs]] (.bool (decide (∃n,n∈l∧q n))):=by
 have hfz:=frzL_self [] cs hcp
 refine pB Tryz.func93 fun hlen=>CV.run ?_
 simp only[Tryz.f93]
 simp only[go_sem,length_map,and_true,true_and]at hlen
 repeat' first|refine sP ?_ ?_<;>intro hb<;>(try rw[hb])<;>(try simp only[bb]at hb)<;>(try simp only[within]at hb)<;>try simp only[go_sem,hfz]|refine aI ?_|with_reducible refine cq (c163 l g cs hcp q hf) ?_|simp only[go_sem,hfz]
 exact bd ix_ge
theorem c164(l:List Mach)(g:Nat)(cs:List AV)(hcp:AV.pureL cs=true)(q:Mach→Prop)(hf: ∀n,n∈l→PC prog g [.agg (encM n),.pp cs] (.bool (decide (q n)))):PC prog 164 [.lst false 3 (l.map encM),.fn g [.pp cs]] (.int .i64 (ix q l)):=by
 have hfz:=frzL_self [] cs hcp
 refine pB Tryz.func164 fun hlen=>CV.run ?_
 simp only[Tryz.f164]
 simp only[go_sem,length_map,and_true,true_and]at hlen
 repeat' first|refine sP ?_ ?_<;>intro hb<;>(try rw[hb])<;>(try simp only[bb]at hb)<;>(try simp only[within]at hb)<;>try simp only[go_sem,hfz]|refine aI ?_|simp only[go_sem,hfz]
 refine vc_for (fun j=>⟨[(8,.int .i64 j),(7,.int .i64 l.length),(4,.int .i64 0),(0,.lst false 3 (l.map encM)),(1,.fn g [.pp cs])],[]⟩) l.length (fun j=> ∀i,i<j→ ∀b,l[i]? =some b→ ¬q b) (by exact w0) (fun i h=>by omega) ?_
 intro j hj hx
 rcases Nat.lt_or_ge j l.length with hlt|hge
 ·obtain⟨m,hm⟩:=get_of hlt
  have hlt':(j:Int)<l.length:=by omega
  have hfm:=hf m (mem_of_getElem? hm)
  simp only[encM]at hfm
  repeat' first|refine sP ?_ ?_<;>intro hb<;>(try rw[hb])<;>(try simp only[bb]at hb)<;>(try simp only[within]at hb)<;>try simp only[go_sem,hlt',hm,encM,hfz]|refine aI ?_|with_reducible refine cq hfm ?_|simp only[go_sem,hlt',hm,encM,hfz]
  ·rw[ix_at ⟨⟨m,hm,hb⟩,hx⟩]
  ·refine⟨by exact w0,fun i hi b hib=>?_⟩
   rcases Nat.lt_or_ge i j with h|h
   ·exact hx i h b hib
   ·have:i=j:=by omega
    subst this
    rw[hm]at hib;cases hib;exact hb
 ·have hge': ¬(j:Int)<l.length:=by omega
  repeat' first|refine sP ?_ ?_<;>intro hb<;>(try rw[hb])<;>(try simp only[bb]at hb)<;>(try simp only[within]at hb)<;>try simp only[go_sem,hge']|refine aI ?_|simp only[go_sem,hge']
  rw[ix_no (fun i b hb=>hx i (by have:=(List.getElem?_eq_some_iff.1 hb).1;omega) b hb)]
theorem c95(l:List Mach)(g:Nat)(cs:List AV)(hcp:AV.pureL cs=true)(q:Mach→Prop)(hf: ∀n,n∈l→PC prog g [.agg (encM n),.pp cs] (.bool (decide (q n)))):PC prog 95 [.lst false 3 (l.map encM),.fn g [.pp cs]] (.bool (decide (∃n,n∈l∧q n))):=by
 have hfz:=frzL_self [] cs hcp
 refine pB Tryz.func95 fun hlen=>CV.run ?_
 simp only[Tryz.f95]
 simp only[go_sem,length_map,and_true,true_and]at hlen
 repeat' first|refine sP ?_ ?_<;>intro hb<;>(try rw[hb])<;>(try simp only[bb]at hb)<;>(try simp only[within]at hb)<;>try simp only[go_sem,hfz]|refine aI ?_|with_reducible refine cq (c164 l g cs hcp q hf) ?_|simp only[go_sem,hfz]
 exact bd ix_ge
theorem c165(l:List Bun)(g:Nat)(cs:List AV)(hcp:AV.pureL cs=true)(q:Bun→Prop)(hf: ∀n,n∈l→PC prog g [.agg (encB n),.pp cs] (.bool (decide (q n)))):PC prog 165 [.lst false 3 (l.map encB),.fn g [.pp cs]] (.int .i64 (ix q l)):=by
 have hfz:=frzL_self [] cs hcp
 refine pB Tryz.func165 fun hlen=>CV.run ?_
 simp only[Tryz.f165]
 simp only[go_sem,length_map,and_true,true_and]at hlen
 repeat' first|refine sP ?_ ?_<;>intro hb<;>(try rw[hb])<;>(try simp only[bb]at hb)<;>(try simp only[within]at hb)<;>try simp only[go_sem,hfz]|refine aI ?_|simp only[go_sem,hfz]
 refine vc_for (fun j=>⟨[(8,.int .i64 j),(7,.int .i64 l.length),(4,.int .i64 0),(0,.lst false 3 (l.map encB)),(1,.fn g [.pp cs])],[]⟩) l.length (fun j=> ∀i,i<j→ ∀b,l[i]? =some b→ ¬q b) (by exact w0) (fun i h=>by omega) ?_
 intro j hj hx
 rcases Nat.lt_or_ge j l.length with hlt|hge
 ·obtain⟨m,hm⟩:=get_of hlt
  have hlt':(j:Int)<l.length:=by omega
  have hfm:=hf m (mem_of_getElem? hm)
  simp only[encB]at hfm
  repeat' first|refine sP ?_ ?_<;>intro hb<;>(try rw[hb])<;>(try simp only[bb]at hb)<;>(try simp only[within]at hb)<;>try simp only[go_sem,hlt',hm,encB,hfz]|refine aI ?_|with_reducible refine cq hfm ?_|simp only[go_sem,hlt',hm,encB,hfz]
  ·rw[ix_at ⟨⟨m,hm,hb⟩,hx⟩]
  ·refine⟨by exact w0,fun i hi b hib=>?_⟩
   rcases Nat.lt_or_ge i j with h|h
   ·exact hx i h b hib
   ·have:i=j:=by omega
    subst this
    rw[hm]at hib;cases hib;exact hb
 ·have hge': ¬(j:Int)<l.length:=by omega
  repeat' first|refine sP ?_ ?_<;>intro hb<;>(try rw[hb])<;>(try simp only[bb]at hb)<;>(try simp only[within]at hb)<;>try simp only[go_sem,hge']|refine aI ?_|simp only[go_sem,hge']
  rw[ix_no (fun i b hb=>hx i (by have:=(List.getElem?_eq_some_iff.1 hb).1;omega) b hb)]
theorem c97(l:List Bun)(g:Nat)(cs:List AV)(hcp:AV.pureL cs=true)(q:Bun→Prop)(hf: ∀n,n∈l→PC prog g [.agg (encB n),.pp cs] (.bool (decide (q n)))):PC prog 97 [.lst false 3 (l.map encB),.fn g [.pp cs]] (.bool (decide (∃n,n∈l∧q n))):=by
 have hfz:=frzL_self [] cs hcp
 refine pB Tryz.func97 fun hlen=>CV.run ?_
 simp only[Tryz.f97]
 simp only[go_sem,length_map,and_true,true_and]at hlen
 repeat' first|refine sP ?_ ?_<;>intro hb<;>(try rw[hb])<;>(try simp only[bb]at hb)<;>(try simp only[within]at hb)<;>try simp only[go_sem,hfz]|refine aI ?_|with_reducible refine cq (c165 l g cs hcp q hf) ?_|simp only[go_sem,hfz]
 exact bd ix_ge
set_option maxHeartbeats 1000000 in
theorem c55(h:House):PC prog 55 [hG h] (.int .i64 (checkG h)):=by
 have h64:=c93 h.ts 94 [.fn 91 []] rfl (fun n=> ¬within n 0 99) fun n _=>(c94 n).dec
 have h66:=c95 h.ms 96 [.fn 91 []] rfl (fun m=> ¬okMa m) fun m _=>(c96 m).dec
 have h68:=c97 h.bs 98 (cG h) rfl (fun b=> ¬okBu h b) fun b _=>(c98 h b).dec
 refine pB Tryz.func55 fun hlen=>CV.run ?_
 simp only[Tryz.f55]
 simp only[go_sem,length_map,and_true,true_and]at hlen
 repeat' first|refine sP ?_ ?_<;>intro hb<;>(try rw[hb])<;>(try simp only[bb]at hb)<;>(try simp only[within]at hb)<;>try simp only[go_sem]|refine aI ?_|with_reducible refine cq (c92 _ _ _) ?_|with_reducible refine cq h64 ?_|with_reducible refine cq h66 ?_|with_reducible refine cq h68 ?_|simp only[go_sem]
 all_goals try exact ckG4 (not_okG (by unfold within;omega))
 ·obtain⟨n,h1,h2⟩:=hb
  exact ckG4 fun q=>h2 (q.2.2.2.2.2.2.1 n h1)
 ·obtain⟨n,h1,h2⟩:=hb
  exact ckG4 fun q=>h2 (q.2.2.2.2.2.1 n h1)
 ·obtain⟨n,h1,h2⟩:=hb
  exact ckG4 fun q=>h2 (q.2.2.2.2.2.2.2 n h1)
 ·rename_i a1 a2 a3 a4 a5 a6
  exact ckG0 ⟨by omega,by omega,by omega,by omega,a4,fun n hn=>Classical.byContradiction fun h=>a6 ⟨n,hn,h⟩,fun n hn=>Classical.byContradiction fun h=>a5 ⟨n,hn,h⟩,fun n hn=>Classical.byContradiction fun h=>hb ⟨n,hn,h⟩⟩
def sZ01b_f160:Nat→List (Nat×Nat)
 |17=>[(0,0),(0,0),(0,0),(0,0),(0,0),(0,0),(0,0),(0,0),(0,0),(0,0),(0,0),(0,0)]
 |18=>[(0,0),(0,0),(0,1),(0,1),(0,0),(0,0),(1,1)]
 |_=>[]
attribute [go_sem] sZ01b_f160
attribute [go_sem] Nat.reduceAnd Nat.reduceOr Nat.reduceDiv Nat.reduceMod Nat.reducePow Int.reduceDiv Int.reduceMod Int.reduceAdd Int.reduceSub Int.reduceMul Int.reducePow Int.reduceLE Int.reduceLT Int.reduceEq Int.natCast_one Int.natCast_zero Int.cast_ofNat_Int
def hugeG(h:House):Prop:=40<h.ms.length∨40<h.bs.length∨40<h.ts.length
theorem c43(h:House):PC prog 43 [hG h] (.bool (decide (hugeG h))):=by
 refine pB Tryz.func43 fun hlen=>CV.run ?_
 simp only[Tryz.f43]
 simp only[go_sem,length_map,and_true,true_and]at hlen
 repeat' first|refine sP ?_ ?_<;>intro hb<;>(try rw[hb])<;>(try simp only[bb]at hb)<;>(try simp only[within]at hb)<;>try simp only[go_sem]|refine aI ?_|simp only[go_sem]
 all_goals first
  |exact bt (p:=hugeG h) (by unfold hugeG;omega)
  |exact bd (by unfold hugeG;omega)
def bunG(h:House)(b:Int):Bun:=(h.bs[b.toNat]?).getD ⟨0,0,0⟩
def nxt(h:House)(pc now bef b:Int):Int:=(if 0≤bef∧(bunG h b).ed≠bef then now+h.ch else now)+(bunG h b).hund*pc
def runM(h:House)(pc:Int):List Int→Int→Int→List Int→List Int
 |[],_,_,T=>T
 |b::l,now,bef,T=>runM h pc l (nxt h pc now bef b) (bunG h b).ed (T.set b.toNat (nxt h pc now bef b))
def timF(h:House):List Mach→List (List Int)→List Int→List Int
 |m::ms,l::p,T=>timF h ms p (runM h m.pace l m.ready (-1) T)
 |[],_,T=>T
 |_::_,[],T=>T
def t0:List Int:=[-1,-1,-1,-1,-1]
def tim(h:House)(p:List (List Int)):List Int:=timF h h.ms p t0
theorem runM_len(h:House)(pc:Int): ∀(l:List Int) (now bef:Int) (T:List Int),(runM h pc l now bef T).length=T.length
 |[],_,_,_=>rfl
 |b::l,now,bef,T=>by rw[runM,runM_len h pc l];simp
def encP(l:List Int):List AV:=[lN l]
theorem pureP(l:List (List Int)):pureE (l.map encP)=True:=pureE_map fun _=>rfl
abbrev lP(p:List (List Int)):AV:= .lst false 1 (p.map encP)
attribute [go_sem] pureP
theorem drop_cons'{α:Type}{l:List α}{j:Nat}{a:α}(h:l[j]? =some a):l.drop j=a::l.drop (j+1):=by
 obtain⟨h1,h2⟩:=List.getElem?_eq_some_iff.1 h
 rw[←h2];exact List.drop_eq_getElem_cons h1
theorem belowV_I{n:Nat}{x:Int}:belowV n (I x)=true:=rfl
attribute [go_sem] belowV_I
theorem put0'{s:List Int}{k:Nat}{v:Int}(hk:k<s.length):List.take k (s.map I)++[.int .i64 v]++List.drop (k+1) (s.map I)=(s.set k v).map I:=put0 hk
def okP(h:House)(p:List (List Int)):Prop:=p.length≤h.ms.length∧ ∀l,l∈p→l.length≤5∧ ∀b,b∈l→0≤b∧b<h.bs.length
theorem nxt_bd{h:House}(hk:okG h){m:Mach}(hm:m∈h.ms){now bef b:Int}(h0:0≤now)(hb:0≤b)(hb2:b<h.bs.length):0≤nxt h m.pace now bef b∧nxt h m.pace now bef b≤now+90∧1≤(bunG h b).hund∧(bunG h b).hund≤9∧1≤m.pace∧m.pace≤9∧(bunG h b).hund*m.pace≤81∧0≤(bunG h b).hund*m.pace∧0≤h.ch∧h.ch≤9:=by
 obtain⟨k1,k2,k3,k4,k5,k6,k7,k8⟩:=hk
 obtain⟨x,hx⟩:=get_of (l:=h.bs) (j:=b.toNat) (by omega)
 have e:bunG h b=x:=by simp[bunG,hx]
 have h1:=(k8 x (mem_of_getElem? hx)).2.1
 have h2:=(k6 m hm).2.1
 unfold within at h1 h2 k5
 rw[e]
 have m1:x.hund*m.pace≤9*9:=Int.mul_le_mul h1.2 h2.2 (by omega) (by omega)
 have m2:0≤x.hund*m.pace:=Int.mul_nonneg (by omega) (by omega)
 unfold nxt
 rw[show bunG h b=x by simp[bunG,hx]]
 split<;>omega
set_option maxHeartbeats 4000000 in
theorem c160(h:House)(hk:okG h)(p:List (List Int))(hp:okP h p):PC prog 160 [hG h,lP p] (.agg ((tim h p).map I)):=by
 obtain⟨k1,k2,k3,k4,k5,k6,k7,k8⟩:=id hk
 obtain⟨p1,p2⟩:=hp
 refine PC.body Tryz.func160 (by kernel_rfl) rfl (by simp[Tryz.f160]) (pureL_mapI _) ?_
 simp only[Tryz.f160]
 intro hlen
 simp only[go_sem,length_map,and_true,true_and]at hlen
 refine CV.run ?_
 repeat' first|refine sP ?_ ?_<;>intro hb<;>(try rw[hb])<;>(try simp only[bb]at hb)<;>(try simp only[within]at hb)<;>try simp only[go_sem]|refine aI ?_|with_reducible refine dw sZ01b_f160 ?_|simp only[go_sem]
 refine vc_for (fun j=>⟨[(14,.int .i64 j),(2,.lp 0 0),(4,.lp 1 0),(5,.lp 2 0),(1,lP p)],[.box 26 (cG h) false,.box 230 ([0,0,0,0,0].map I) false,.box 230 ((t0.take j++[0,0,0,0,0].drop j).map I) false]⟩) 5 (fun _=>True) (by(first|exact wk_same (by simp only[go_sem,ic,take_zero,drop_zero,nil_append,map_cons,map_nil,I])|(refine wk_drop ?_ ?_ ?_ ?_ ?_<;>simp only[go_sem,ic,take_zero,drop_zero,nil_append,map_cons,map_nil,I]))) trivial ?_
 intro j hj _
 rcases Nat.lt_or_ge j 5 with hlt|hge
 ·have hc:j=0∨j=1∨j=2∨j=3∨j=4:=by omega
  rcases hc with rfl|rfl|rfl|rfl|rfl
  all_goals
   repeat' first|refine sP ?_ ?_<;>intro hb<;>(try rw[hb])<;>(try simp only[bb]at hb)<;>(try simp only[within]at hb)<;>try simp only[go_sem,t0,I,take_succ_cons,take_zero,drop_succ_cons,drop_zero,cons_append,nil_append,map_cons,map_nil]|refine aI ?_|with_reducible refine dw sZ01b_f160 ?_|simp only[go_sem,t0,I,take_succ_cons,take_zero,drop_succ_cons,drop_zero,cons_append,nil_append,map_cons,map_nil]
   (first|exact wk_same (by simp only[go_sem,ic,t0,I,take_succ_cons,take_zero,drop_succ_cons,drop_zero,cons_append,nil_append,map_cons,map_nil])|(refine wk_drop ?_ ?_ ?_ ?_ ?_<;>simp only[go_sem,ic,t0,I,take_succ_cons,take_zero,drop_succ_cons,drop_zero,cons_append,nil_append,map_cons,map_nil]))
 have:j=5:=by omega
 subst this
 repeat' first|refine sP ?_ ?_<;>intro hb<;>(try rw[hb])<;>(try simp only[bb]at hb)<;>(try simp only[within]at hb)<;>try simp only[go_sem]|refine aI ?_|with_reducible refine dw sZ01b_f160 ?_|simp only[go_sem]
 refine vc_fx (fun j (T:List Int)=>⟨[(22,.int .i64 j),(21,.int .i64 p.length),(20,lP p),(2,.lp 0 0),(4,.lp 1 0),(5,.lp 2 0)],[.box 26 (cG h) false,.box 230 ([0,0,0,0,0].map I) false,.box 230 (T.map I) false]⟩) p.length (fun j T=>T.length=5∧timF h (h.ms.drop j) (p.drop j) T=tim h p) t0 (.base (by(first|exact wk_same (by simp only[go_sem,ic,t0,I,take_succ_cons,take_zero,drop_succ_cons,drop_zero,cons_append,nil_append,map_cons,map_nil,append_nil,List.drop_nil])|(refine wk_drop ?_ ?_ ?_ ?_ ?_<;>simp only[go_sem,ic,t0,I,take_succ_cons,take_zero,drop_succ_cons,drop_zero,cons_append,nil_append,map_cons,map_nil,append_nil,List.drop_nil])))) ⟨rfl,rfl⟩ ?_
 intro j T hj ⟨hT,hx⟩
 rcases Nat.lt_or_ge j p.length with hlt|hge
 ·obtain⟨l,hl⟩:=get_of hlt
  obtain⟨m,hm⟩:=get_of (l:=h.ms) (j:=j) (by omega)
  have hlt':(j:Int)<p.length:=by omega
  have hltm:(j:Int)<h.ms.length:=by omega
  have hmm:=mem_of_getElem? hm
  have hmk:=k6 m hmm
  obtain⟨q1,q2⟩:=p2 l (mem_of_getElem? hl)
  rw[drop_cons' hl,drop_cons' hm,timF]at hx
  have hr0:=hmk.1
  unfold within at hr0
  repeat' first|refine sP ?_ ?_<;>intro hb<;>(try rw[hb])<;>(try simp only[bb]at hb)<;>(try simp only[within]at hb)<;>try simp only[go_sem,hlt',hltm,hl,hm,encP,encM]|refine aI ?_|with_reducible refine dw sZ01b_f160 ?_|simp only[go_sem,hlt',hltm,hl,hm,encP,encM]
  refine vc_fx (fun i (x:Int×Int×List Int)=>⟨[(35,.int .i64 i),(34,.int .i64 l.length),(33,lN l),(9,.int .i64 x.1),(10,.int .i64 x.2.1),(7,.int .i64 j),(22,.int .i64 j),(21,.int .i64 p.length),(20,lP p),(2,.lp 0 0),(4,.lp 1 0),(5,.lp 2 0)],[.box 26 (cG h) false,.box 230 ([0,0,0,0,0].map I) false,.box 230 (x.2.2.map I) false]⟩) l.length (fun i x=>x.2.2.length=5∧0≤x.1∧x.1≤99+90*i∧runM h m.pace (l.drop i) x.1 x.2.1 x.2.2=runM h m.pace l m.ready (-1) T) (m.ready,-1,T) (.base (by exact w0)) ⟨hT,by omega,by omega,rfl⟩ ?_
  intro i x hi ⟨x1,x2,x3,x4⟩
  obtain⟨now,bef,U⟩:=x
  simp only at x1 x2 x3 x4
  rcases Nat.lt_or_ge i l.length with hlt2|hge2
  ·obtain⟨b,hb0⟩:=get_of hlt2
   have hlt2':(i:Int)<l.length:=by omega
   obtain⟨y1,y2⟩:=q2 b (mem_of_getElem? hb0)
   obtain⟨k,rfl⟩: ∃k:Nat,b=k:=⟨b.toNat,by omega⟩
   obtain⟨y,hy⟩:=get_of (l:=h.bs) (j:=k) (by omega)
   have hyk:(k:Int)<h.bs.length:=by omega
   have hk5:(k:Int)<5:=by omega
   have hkU:k<U.length:=by omega
   have ey:bunG h k=y:=by simp[bunG,hy]
   obtain⟨z1,z2,z3,z4,z5,z6,z7,z8,z9,z10⟩:=nxt_bd hk hmm (now:=now) (bef:=bef) (b:=k) x2 y1 y2
   rw[drop_cons' hb0,runM]at x4
   rw[ey]at z3 z4 z7 z8 x4
   have en:nxt h m.pace now bef k=(if 0≤bef∧y.ed≠bef then now+h.ch else now)+y.hund*m.pace:=by unfold nxt;rw[ey]
   rw[en]at z1 z2 x4
   simp only[Int.toNat_natCast]at x4
   repeat' first|refine sP ?_ ?_<;>intro hb<;>(try rw[hb])<;>(try simp only[bb]at hb)<;>(try simp only[within]at hb)<;>try simp only[go_sem,hlt2',hb0,hyk,hy,hltm,hm,hk5,hkU,x1,put0',encN,encB,encM,length_map,Nat.mul_one]|refine aI ?_|with_reducible refine dw sZ01b_f160 ?_|simp only[go_sem,hlt2',hb0,hyk,hy,hltm,hm,hk5,hkU,x1,put0',encN,encB,encM,length_map,Nat.mul_one]
   all_goals first
    |(rw[if_pos (by omega)]at z1 z2 x4;exact⟨(now+h.ch+y.hund*m.pace,y.ed,U.set k (now+h.ch+y.hund*m.pace)),hlt2,.base (by(first|exact wk_same (by simp only[go_sem,ic,put0',hkU])|(refine wk_drop ?_ ?_ ?_ ?_ ?_<;>simp only[go_sem,ic,put0',hkU]))),by simpa using x1,z1,by simp only;omega,x4⟩)
    |(rw[if_neg (by omega)]at z1 z2 x4;exact⟨(now+y.hund*m.pace,y.ed,U.set k (now+y.hund*m.pace)),hlt2,.base (by(first|exact wk_same (by simp only[go_sem,ic,put0',hkU])|(refine wk_drop ?_ ?_ ?_ ?_ ?_<;>simp only[go_sem,ic,put0',hkU]))),by simpa using x1,z1,by simp only;omega,x4⟩)
  ·have hge2': ¬(i:Int)<l.length:=by omega
   have:i=l.length:=by omega
   subst this
   rw[drop_length,runM]at x4
   repeat' first|refine sP ?_ ?_<;>intro hb<;>(try rw[hb])<;>(try simp only[bb]at hb)<;>(try simp only[within]at hb)<;>try simp only[go_sem,hge2']|refine aI ?_|with_reducible refine dw sZ01b_f160 ?_|simp only[go_sem,hge2']
   exact⟨U,hlt,.base (by exact w0),x1,by rw[x4];exact hx⟩
 ·have hge': ¬(j:Int)<p.length:=by omega
  have:j=p.length:=by omega
  subst this
  have htk:List.take 5 (List.map I T)=List.map I T:=List.take_of_length_le (by simp[hT])
  rw[drop_length]at hx
  have hx2:T=tim h p:=by
   rw[←hx]
   cases h.ms.drop p.length<;>rfl
  subst hx2
  repeat' first|refine sP ?_ ?_<;>intro hb<;>(try rw[hb])<;>(try simp only[bb]at hb)<;>(try simp only[within]at hb)<;>try simp only[go_sem,hge',hT,htk,allOne_mapI,frzL_mapI,length_map,drop_succ_cons,drop_zero,append_nil]|refine aI ?_|with_reducible refine dw sZ01b_f160 ?_|simp only[go_sem,hge',hT,htk,allOne_mapI,frzL_mapI,length_map,drop_succ_cons,drop_zero,append_nil]
def sZ01c_f159(_:Nat):List (Nat×Nat):=[(0,0),(0,0),(0,0),(0,0),(0,0),(0,0),(0,0),(0,0),(0,0),(0,0),(0,0),(0,0)]
attribute [go_sem] sZ01c_f159
def tb(t:Int):Int:=if t= -1 then 1048576 else t
def rdF(T:List Int):List Bun→Nat→List Int→List Int
 |[],_,R=>R
 |x::l,i,R=>rdF T l (i+1) (R.set x.train.toNat (max (gv R x.train) (tb (gv T i))))
def r0:List Int:=[0,0,0,0]
def rdy(h:House)(T:List Int):List Int:=rdF T h.bs 0 r0
theorem rdF_len(T:List Int): ∀(l:List Bun) (i:Nat) (R:List Int),(rdF T l i R).length=R.length
 |[],_,_=>rfl
 |x::l,i,R=>by rw[rdF,rdF_len T l];simp
theorem gv_set{l:List Int}{j:Nat}{x:Int}{i:Nat}(hj:j<l.length):gv (l.set j x) i=if i=j then x else gv l i:=by
 simp only[gv,Int.toNat_natCast]
 rw[List.getElem?_set]
 by_cases e:j=i
 ·subst e;rw[if_pos rfl,if_pos hj,if_pos rfl];rfl
 ·rw[if_neg e,if_neg fun h=>e h.symm]
set_option maxHeartbeats 4000000 in
theorem c159(h:House)(hk:okG h)(T:List Int)(hT:T.length=5):PC prog 159 [hG h,.agg (T.map I)] (.agg ((rdy h T).map I)):=by
 obtain⟨k1,k2,k3,k4,k5,k6,k7,k8⟩:=id hk
 have htl:(T.map I).length=5:=by simp[hT]
 refine PC.body Tryz.func159 (by kernel_rfl) rfl (by simp[Tryz.f159]) (pureL_mapI _) ?_
 simp only[Tryz.f159]
 intro hlen
 simp only[go_sem,length_map,and_true,true_and]at hlen
 refine CV.run ?_
 repeat' first|refine sP ?_ ?_<;>intro hb<;>(try rw[hb])<;>(try simp only[bb]at hb)<;>(try simp only[within]at hb)<;>try simp only[go_sem,allOne_mapI,htl]|refine aI ?_|with_reducible refine dw sZ01c_f159 ?_|simp only[go_sem,allOne_mapI,htl]
 refine vc_fx (fun j (x:List Int×List Int)=>⟨[(11,.int .i64 j),(10,.int .i64 h.bs.length),(9,.lst false 3 (h.bs.map encB)),(3,.lp 1 0),(4,.lp 2 0),(5,.lp 3 0)],[.box 26 (cG h) false,.box 230 (x.1.map I) false,.box 227 ([0,0,0,0].map I) false,.box 227 (x.2.map I) false]⟩) h.bs.length (fun j x=>x.1.length=5∧x.2.length=4∧(∀i:Nat,j≤i→gv x.1 i=gv T i)∧rdF T (h.bs.drop j) j x.2=rdy h T) (T,r0) (.base (by(first|exact wk_same (by simp only[go_sem,ic,r0,I,map_cons,map_nil])|(refine wk_drop ?_ ?_ ?_ ?_ ?_<;>simp only[go_sem,ic,r0,I,map_cons,map_nil])))) ⟨hT,rfl,fun _ _=>rfl,rfl⟩ ?_
 intro j x hj ⟨x1,x2,x3,x4⟩
 obtain⟨U,R⟩:=x
 simp only at x1 x2 x3 x4
 rcases Nat.lt_or_ge j h.bs.length with hlt|hge
 ·obtain⟨y,hy⟩:=get_of hlt
  have hlt':(j:Int)<h.bs.length:=by omega
  have hyk:=(k8 y (mem_of_getElem? hy)).1
  unfold within at hyk
  rw[drop_cons' hy,rdF,← x3 j (Nat.le_refl _)]at x4
  obtain⟨tr,htr⟩: ∃tr:Nat,y.train=tr:=⟨y.train.toNat,by omega⟩
  have h5:(j:Int)<5:=by omega
  have h4:(tr:Int)<4:=by omega
  have hjU:j<U.length:=by omega
  have htR:tr<R.length:=by omega
  obtain⟨u,hu⟩:=get_of hjU
  obtain⟨r,hr⟩:=get_of htR
  have eu:=gv_nat hu
  have er:=gv_nat hr
  rw[htr,eu,er,Int.toNat_natCast]at x4
  have hj5:j<5:=by omega
  have ht4:tr<4:=by omega
  have hset:(U.set j 1048576)[j]? =some 1048576:=by rw[List.getElem?_set_self hjU]
  by_cases hu1:u= -1
  ·repeat' first|refine sP ?_ ?_<;>intro hb<;>(try rw[hb])<;>(try simp only[bb]at hb)<;>(try simp only[within]at hb)<;>try simp only[go_sem,hlt',hy,encB,htr,h5,h4,hj5,ht4,hu,hr,hu1,x1,x2,put0',hset,getI,drop_head,Option.map_some,I,length_map,length_set,Nat.mul_one]|refine aI ?_|with_reducible refine dw sZ01c_f159 ?_|simp only[go_sem,hlt',hy,encB,htr,h5,h4,hj5,ht4,hu,hr,hu1,x1,x2,put0',hset,getI,drop_head,Option.map_some,I,length_map,length_set,Nat.mul_one]
   rw[show tb u=1048576 from if_pos hu1]at x4
   refine⟨(U.set j 1048576,R.set tr (max r 1048576)),hlt,.base (by(first|exact wk_same (by simp only[go_sem,ic,put0',hj5,ht4,x1,x2])|(refine wk_drop ?_ ?_ ?_ ?_ ?_<;>simp only[go_sem,ic,put0',hj5,ht4,x1,x2]))),by simpa using x1,by simpa using x2,fun i hi=>?_,x4⟩
   rw[gv_set hjU,if_neg (by omega)];exact x3 i (by omega)
  ·repeat' first|refine sP ?_ ?_<;>intro hb<;>(try rw[hb])<;>(try simp only[bb]at hb)<;>(try simp only[within]at hb)<;>try simp only[go_sem,hlt',hy,encB,htr,h5,h4,hj5,ht4,hu,hr,hu1,x1,x2,put0',getI,drop_head,Option.map_some,I,length_map,length_set,Nat.mul_one]|refine aI ?_|with_reducible refine dw sZ01c_f159 ?_|simp only[go_sem,hlt',hy,encB,htr,h5,h4,hj5,ht4,hu,hr,hu1,x1,x2,put0',getI,drop_head,Option.map_some,I,length_map,length_set,Nat.mul_one]
   rw[show tb u=u from if_neg hu1]at x4
   exact⟨(U,R.set tr (max r u)),hlt,.base (by(first|exact wk_same (by simp only[go_sem,ic,put0',hj5,ht4,x1,x2])|(refine wk_drop ?_ ?_ ?_ ?_ ?_<;>simp only[go_sem,ic,put0',hj5,ht4,x1,x2]))),x1,by simpa using x2,fun i hi=>x3 i (by omega),x4⟩
 ·have hge': ¬(j:Int)<h.bs.length:=by omega
  have:j=h.bs.length:=by omega
  subst this
  rw[drop_length,rdF]at x4
  subst x4
  have htk:List.take 4 (List.map I (rdy h T))=List.map I (rdy h T):=List.take_of_length_le (by simp[x2])
  repeat' first|refine sP ?_ ?_<;>intro hb<;>(try rw[hb])<;>(try simp only[bb]at hb)<;>(try simp only[within]at hb)<;>try simp only[go_sem,hge',x2,htk,allOne_mapI,frzL_mapI,length_map,drop_succ_cons,drop_zero,append_nil]|refine aI ?_|with_reducible refine dw sZ01c_f159 ?_|simp only[go_sem,hge',x2,htk,allOne_mapI,frzL_mapI,length_map,drop_succ_cons,drop_zero,append_nil]
def ltM(h:House)(R:List Int):Nat→Int
 |0=>0
 |i+1=>ltM h R i+(if gv h.ts i<gv R i then 2^i else 0)
theorem ltM_bd(h:House)(R:List Int): ∀i,0≤ltM h R i∧ltM h R i<2^i
 |0=>by simp[ltM]
 |i+1=>by
  have:=ltM_bd h R i
  rw[ltM,Int.pow_succ]
  split<;>omega
theorem or_add{a:Int}{i:Nat}(h0:0≤a)(h1:a<2^i):((a.toNat ||| (2^i:Nat):Nat):Int)=a+2^i:=by
 have h2:a.toNat<2^i:=by
  have e:((2^i:Nat):Int)=2^i:=by simp
  omega
 have h3:=Nat.two_pow_add_eq_or_of_lt h2 1
 rw[Nat.mul_one,Nat.or_comm]at h3
 have e2:((2^i:Nat):Int)=(2:Int)^i:=by simp
 rw[←h3,Int.natCast_add,e2]
 clear h3 h2
 omega
abbrev ltG(h:House)(R:List Int):Int:=ltM h R h.ts.length
theorem pow_bd{i:Nat}(h:i≤4):(2:Int)^i≤16∧1≤(2:Int)^i:=by
 have hc:i=0∨i=1∨i=2∨i=3∨i=4:=by omega
 rcases hc with rfl|rfl|rfl|rfl|rfl<;>decide
set_option maxHeartbeats 1000000 in
theorem c158(h:House)(hk:okG h)(R:List Int)(hR:R.length=4):PC prog 158 [hG h,.agg (R.map I)] (.int .u64 (ltG h R)):=by
 obtain⟨k1,k2,k3,k4,k5,k6,k7,k8⟩:=id hk
 have htl:(R.map I).length=4:=by simp[hR]
 refine pB Tryz.func158 fun hlen=>CV.run ?_
 simp only[Tryz.f158]
 simp only[go_sem,length_map,and_true,true_and]at hlen
 repeat' first|refine sP ?_ ?_<;>intro hb<;>(try rw[hb])<;>(try simp only[bb]at hb)<;>(try simp only[within]at hb)<;>try simp only[go_sem,allOne_mapI,htl]|refine aI ?_|simp only[go_sem,allOne_mapI,htl]
 refine vc_for (fun j=>⟨[(11,.int .i64 j),(10,.int .i64 h.ts.length),(9,lN h.ts),(3,.lp 1 0),(5,.int .u64 (ltM h R j)),(4,.int .u64 0)],[.box 26 (cG h) false,.box 227 (R.map I) false]⟩) h.ts.length (fun _=>True) (by(first|exact wk_same (by simp only[go_sem,ic,ltM])|(refine wk_drop ?_ ?_ ?_ ?_ ?_<;>simp only[go_sem,ic,ltM]))) trivial ?_
 intro j hj _
 rcases Nat.lt_or_ge j h.ts.length with hlt|hge
 ·obtain⟨t,ht⟩:=get_of hlt
  have hlt':(j:Int)<h.ts.length:=by omega
  have hj4':(j:Int)<4:=by omega
  have hj4:j<4:=by omega
  obtain⟨r,hr⟩:=get_of (l:=R) (j:=j) (by omega)
  have et:=gv_nat ht
  have er:=gv_nat hr
  have hb1:=ltM_bd h R j
  have hb2:=pow_bd (i:=j) (by omega)
  have hor:=or_add hb1.1 hb1.2
  have e3:((2:Int)^j).toNat=2^j:=by rw[show(2:Int)^j=((2^j:Nat):Int) by simp];exact Int.toNat_natCast _
  have eor:(((ltM h R j).toNat ||| (1*(2:Int)^j).toNat:Nat):Int)=ltM h R j+2^j:=by rw[Int.one_mul,e3];exact hor
  have l1:t<r→ltM h R (j+1)=ltM h R j+2^j:=fun q=>by rw[ltM,et,er,if_pos q]
  have l2: ¬t<r→ltM h R (j+1)=ltM h R j:=fun q=>by rw[ltM,et,er,if_neg q,Int.add_zero]
  have hb3:ltM h R j<16:=by omega
  repeat' first|refine sP ?_ ?_<;>intro hb<;>(try rw[hb])<;>(try simp only[bb]at hb)<;>(try simp only[within]at hb)<;>try simp only[go_sem,hlt',ht,hj4',hj4,hr,encN,getI,drop_head,Option.map_some,I,length_map,length_set,Nat.mul_one]|refine aI ?_|simp only[go_sem,hlt',ht,hj4',hj4,hr,encN,getI,drop_head,Option.map_some,I,length_map,length_set,Nat.mul_one]
  ·exact⟨⟨by omega,by omega,by unfold U64;omega⟩,⟨by unfold U64;omega,by unfold U64;omega⟩,by unfold I64;omega,hlt,by(first|exact wk_same (by simp only[go_sem,ic,eor,l1 hb])|(refine wk_drop ?_ ?_ ?_ ?_ ?_<;>simp only[go_sem,ic,eor,l1 hb]))⟩
  ·(first|exact wk_same (by simp only[go_sem,ic,l2 hb])|(refine wk_drop ?_ ?_ ?_ ?_ ?_<;>simp only[go_sem,ic,l2 hb]))
 ·have hge': ¬(j:Int)<h.ts.length:=by omega
  have:j=h.ts.length:=by omega
  subst this
  repeat' first|refine sP ?_ ?_<;>intro hb<;>(try rw[hb])<;>(try simp only[bb]at hb)<;>(try simp only[within]at hb)<;>try simp only[go_sem,hge']|refine aI ?_|simp only[go_sem,hge']
def pop(x:Int):Int:=x % 2+x / 2 % 2+x / 4 % 2+x / 8 % 2
end Go.Proofs.YtoadkchhimojlaaGreatDoor
namespace Go.Proofs.YtoadkchhimojlaaGreatDoor.W2
open Go Go.Fl
open Classical
structure Mould where
 page:Int
 used:Int
 broke:Int
structure Shop where
 ms:List Mould
 ws:List (List Int)
 wt:List Int
 fr:Int
def encD(m:Mould):List AV:=[.int .i64 m.page,.int .i64 m.used,.int .i64 m.broke]
def encW(w:List Int):List AV:=[lN w]
theorem pureD(l:List Mould):pureE (l.map encD)=True:=pureE_map fun _=>rfl
theorem pureW(l:List (List Int)):pureE (l.map encW)=True:=pureE_map fun _=>rfl
attribute [go_sem] pureD pureW
abbrev cS(s:Shop):List AV:=[.lst false 3 (s.ms.map encD),.lst false 1 (s.ws.map encW),lN s.wt,.int .i64 s.fr]
abbrev hS(s:Shop):AV:= .agg (cS s)
theorem c73(n lo hi:Int):PC prog 73 [.int .i64 n,.int .i64 lo,.int .i64 hi] (.bool (decide (within n lo hi))):=by
 refine pB Tryz.func73 fun hlen=>CV.run ?_
 simp only[Tryz.f73]
 simp only[go_sem,length_map,and_true,true_and]at hlen
 repeat' first|refine sP ?_ ?_<;>intro hb<;>(try rw[hb])<;>(try simp only[bb]at hb)<;>try simp only[go_sem]|refine aI ?_|simp only[go_sem]
 ·simp[within,hb]
 ·exact bf fun h=>absurd h.1 (by omega)
theorem c50(n lo hi:Int):PC prog 50 [.int .i64 n,.int .i64 lo,.int .i64 hi] (.bool (decide (within n lo hi))):=by
 refine pB Tryz.func50 fun hlen=>CV.run ?_
 simp only[Tryz.f50]
 simp only[go_sem,length_map,and_true,true_and]at hlen
 repeat' first|refine sP ?_ ?_<;>intro hb<;>(try rw[hb])<;>(try simp only[bb]at hb)<;>try simp only[go_sem]|refine aI ?_|with_reducible refine cq (c73 _ _ _) ?_|simp only[go_sem]
theorem c102(n lo hi:Int):PC prog 102 [.int .i64 n,.int .i64 lo,.int .i64 hi] (.bool (decide (within n lo hi))):=by
 refine pB Tryz.func102 fun hlen=>CV.run ?_
 simp only[Tryz.f102]
 simp only[go_sem,length_map,and_true,true_and]at hlen
 repeat' first|refine sP ?_ ?_<;>intro hb<;>(try rw[hb])<;>(try simp only[bb]at hb)<;>try simp only[go_sem]|refine aI ?_|simp only[go_sem]
 ·simp[within,hb]
 ·exact bf fun h=>absurd h.1 (by omega)
def sZ02b_f18(_:Nat):List (Nat×Nat):=[(0,0),(0,0),(0,0),(0,0),(0,0),(0,0),(0,0),(0,0),(0,0),(0,0)]
attribute [go_sem] sZ02b_f18
def okM(s:Shop)(m:Mould):Prop:=within m.page 0 (s.wt.length-1)∧within m.used 0 12∧within m.broke 0 1
def okW(s:Shop)(w:List Int):Prop:=w.length=s.ms.length∧ ∀n,n∈w→within n 0 12
def valid(s:Shop):Prop:=s.wt.length≤3∧s.ms.length≤5∧s.ws.length≤6∧within s.fr 1 12∧(∀n,n∈s.wt→within n 0 12)∧(∀m,m∈s.ms→okM s m)∧ ∀w,w∈s.ws→okW s w
noncomputable def check(s:Shop):Int:=if valid s then 0 else 20
theorem ck0{s:Shop}(h:valid s):AV.int .i64 0= .int .i64 (check s):=by simp[check,h]
theorem ck20{s:Shop}(h: ¬valid s):AV.int .i64 20= .int .i64 (check s):=by simp[check,h]
theorem c51(s:Shop)(n:Int):PC prog 51 [hS s,.int .i64 n] (.bool (decide (within n 0 (s.wt.length-1)))):=by
 refine pB Tryz.func51 fun hlen=>CV.run ?_
 simp only[Tryz.f51]
 simp only[go_sem,length_map,and_true,true_and]at hlen
 repeat' first|refine sP ?_ ?_<;>intro hb<;>(try rw[hb])<;>(try simp only[bb]at hb)<;>(try simp only[within]at hb)<;>try simp only[go_sem]|refine aI ?_|with_reducible refine cq (c50 _ _ _) ?_|simp only[go_sem]
theorem not_valid{s:Shop}(h:3<s.wt.length∨5<s.ms.length∨6<s.ws.length∨ ¬within s.fr 1 12): ¬valid s:=fun q=>by
 have h1:=q.1
 have h2:=q.2.1
 have h3:=q.2.2.1
 have h4:=q.2.2.2.1
 rcases h with h|h|h|h
 ·omega
 ·omega
 ·omega
 ·exact h h4
theorem c18(s:Shop):PC prog 18 [hS s] (.int .i64 (check s)):=by
 refine pB Tryz.func18 fun hlen=>CV.run ?_
 simp only[Tryz.f18]
 simp only[go_sem,length_map,and_true,true_and]at hlen
 repeat' first|refine sP ?_ ?_<;>intro hb<;>(try rw[hb])<;>(try simp only[bb]at hb)<;>(try simp only[within]at hb)<;>try simp only[go_sem]|refine aI ?_|with_reducible refine dw sZ02b_f18 ?_|with_reducible refine cq (c50 _ _ _) ?_|simp only[go_sem]
 all_goals try exact ck20 (not_valid (by unfold within;omega))
 have hfr:within s.fr 1 12:=by unfold within;omega
 refine vc_for (fun j=>⟨[(3,.int .i64 j),(2,.int .i64 0),(1,.lp 0 0)],[.box 32 (cS s) false]⟩) s.wt.length (fun j=>allTo (fun _ n=>within n 0 12) s.wt j) (by exact w0) .zero ?_
 intro j hj hx
 rcases Nat.lt_or_ge j s.wt.length with hlt|hge
 ·obtain⟨n,hn⟩:=get_of hlt
  have hlt':(j:Int)<s.wt.length:=by omega
  repeat' first|refine sP ?_ ?_<;>intro hb<;>(try rw[hb])<;>(try simp only[bb]at hb)<;>(try simp only[within]at hb)<;>try simp only[go_sem,hlt',hn,encN]|refine aI ?_|with_reducible refine dw sZ02b_f18 ?_|with_reducible refine cq (c50 _ _ _) ?_|simp only[go_sem,hlt',hn,encN]
  ·exact ck20 (s:=s) fun h=>absurd (h.2.2.2.2.1 n (mem_of_getElem? hn)) (by unfold within;omega)
  ·exact⟨by exact w0,hx.succ hn (by unfold within;omega)⟩
 have hw:=hx.mem hge
 have hge': ¬(j:Int)<s.wt.length:=by omega
 repeat' first|refine sP ?_ ?_<;>intro hb<;>(try rw[hb])<;>(try simp only[bb]at hb)<;>(try simp only[within]at hb)<;>try simp only[go_sem,hge']|refine aI ?_|with_reducible refine dw sZ02b_f18 ?_|simp only[go_sem,hge']
 refine vc_for (fun j=>⟨[(4,.int .i64 j),(2,.int .i64 0),(1,.lp 0 0)],[.box 32 (cS s) false]⟩) s.ms.length (fun j=>allTo (fun _ m=>okM s m) s.ms j) (by exact w0) .zero ?_
 intro k hk hy
 rcases Nat.lt_or_ge k s.ms.length with hlt|hge2
 ·obtain⟨m,hm⟩:=get_of hlt
  have hlt':(k:Int)<s.ms.length:=by omega
  repeat' first|refine sP ?_ ?_<;>intro hb<;>(try rw[hb])<;>(try simp only[bb]at hb)<;>(try simp only[within]at hb)<;>try simp only[go_sem,hlt',hm,encD]|refine aI ?_|with_reducible refine dw sZ02b_f18 ?_|with_reducible refine cq (c51 _ _) ?_|with_reducible refine cq (c50 _ _ _) ?_|simp only[go_sem,hlt',hm,encD]
  all_goals first
   |exact ck20 (s:=s) fun h=>absurd (h.2.2.2.2.2.1 m (mem_of_getElem? hm)) (by unfold okM within;omega)
   |exact⟨by exact w0,hy.succ hm (by unfold okM within;omega)⟩
 have hmm:=hy.mem hge2
 have hge2': ¬(k:Int)<s.ms.length:=by omega
 repeat' first|refine sP ?_ ?_<;>intro hb<;>(try rw[hb])<;>(try simp only[bb]at hb)<;>(try simp only[within]at hb)<;>try simp only[go_sem,hge2']|refine aI ?_|with_reducible refine dw sZ02b_f18 ?_|simp only[go_sem,hge2']
 refine vc_for (fun j=>⟨[(6,.int .i64 j),(2,.int .i64 0),(1,.lp 0 0)],[.box 32 (cS s) false]⟩) s.ws.length (fun j=>allTo (fun _ w=>okW s w) s.ws j) (by exact w0) .zero ?_
 intro i hi hz
 rcases Nat.lt_or_ge i s.ws.length with hlt|hge3
 ·obtain⟨w,hww⟩:=get_of hlt
  have hlt':(i:Int)<s.ws.length:=by omega
  repeat' first|refine sP ?_ ?_<;>intro hb<;>(try rw[hb])<;>(try simp only[bb]at hb)<;>(try simp only[within]at hb)<;>try simp only[go_sem,hlt',hww,encW]|refine aI ?_|with_reducible refine dw sZ02b_f18 ?_|simp only[go_sem,hlt',hww,encW]
  ·exact ck20 (s:=s) fun h=>absurd (h.2.2.2.2.2.2 w (mem_of_getElem? hww)).1 (by omega)
  refine vc_for (fun j=>⟨[(7,.int .i64 j),(6,.int .i64 i),(2,.int .i64 0),(1,.lp 0 0)],[.box 32 (cS s) false]⟩) w.length (fun j=>allTo (fun _ n=>within n 0 12) w j) (by exact w0) .zero ?_
  intro q hq hu
  rcases Nat.lt_or_ge q w.length with hlt2|hge4
  ·obtain⟨n,hn⟩:=get_of hlt2
   have hlt2':(q:Int)<w.length:=by omega
   repeat' first|refine sP ?_ ?_<;>intro hb<;>(try rw[hb])<;>(try simp only[bb]at hb)<;>(try simp only[within]at hb)<;>try simp only[go_sem,hlt',hww,hlt2',hn,encW,encN]|refine aI ?_|with_reducible refine dw sZ02b_f18 ?_|with_reducible refine cq (c50 _ _ _) ?_|simp only[go_sem,hlt',hww,hlt2',hn,encW,encN]
   ·exact ck20 (s:=s) fun h=>absurd ((h.2.2.2.2.2.2 w (mem_of_getElem? hww)).2 n (mem_of_getElem? hn)) (by unfold within;omega)
   ·exact⟨by exact w0,hu.succ hn (by unfold within;omega)⟩
  ·have hge4': ¬(q:Int)<w.length:=by omega
   repeat' first|refine sP ?_ ?_<;>intro hb<;>(try rw[hb])<;>(try simp only[bb]at hb)<;>(try simp only[within]at hb)<;>try simp only[go_sem,hlt',hww,hge4',encW]|refine aI ?_|with_reducible refine dw sZ02b_f18 ?_|simp only[go_sem,hlt',hww,hge4',encW]
   exact⟨by exact w0,hz.succ hww ⟨by omega,hu.mem hge4⟩⟩
 ·have hge3': ¬(i:Int)<s.ws.length:=by omega
  repeat' first|refine sP ?_ ?_<;>intro hb<;>(try rw[hb])<;>(try simp only[bb]at hb)<;>(try simp only[within]at hb)<;>try simp only[go_sem,hge3']|refine aI ?_|with_reducible refine dw sZ02b_f18 ?_|simp only[go_sem,hge3']
  exact ck0 ⟨by omega,by omega,by omega,hfr,hw,hmm,hz.mem hge3⟩
def huge(s:Shop):Prop:=40<s.ms.length∨40<s.ws.length∨40<s.wt.length∨ ∃w,w∈s.ws∧40<w.length
theorem c44(s:Shop):PC prog 44 [hS s] (.bool (decide (huge s))):=by
 refine pB Tryz.func44 fun hlen=>CV.run ?_
 simp only[Tryz.f44]
 simp only[go_sem,length_map,and_true,true_and]at hlen
 repeat' first|refine sP ?_ ?_<;>intro hb<;>(try rw[hb])<;>(try simp only[bb]at hb)<;>(try simp only[within]at hb)<;>try simp only[go_sem]|refine aI ?_|simp only[go_sem]
 all_goals try exact bt (p:=huge s) (by unfold huge;omega)
 refine vc_for (fun j=>⟨[(3,.int .i64 j),(2,.bool false),(1,.lp 0 0)],[.box 32 (cS s) false]⟩) s.ws.length (fun j=>allTo (fun _ w=>w.length≤40) s.ws j) (by exact w0) .zero ?_
 intro j hj hx
 rcases Nat.lt_or_ge j s.ws.length with hlt|hge
 ·obtain⟨w,hw⟩:=get_of hlt
  have hlt':(j:Int)<s.ws.length:=by omega
  repeat' first|refine sP ?_ ?_<;>intro hb<;>(try rw[hb])<;>(try simp only[bb]at hb)<;>(try simp only[within]at hb)<;>try simp only[go_sem,hlt',hw,encW]|refine aI ?_|simp only[go_sem,hlt',hw,encW]
  ·exact bt (p:=huge s) (.inr (.inr (.inr ⟨w,mem_of_getElem? hw,by omega⟩)))
  ·exact⟨by exact w0,hx.succ hw (by omega)⟩
 ·have hge': ¬(j:Int)<s.ws.length:=by omega
  repeat' first|refine sP ?_ ?_<;>intro hb<;>(try rw[hb])<;>(try simp only[bb]at hb)<;>(try simp only[within]at hb)<;>try simp only[go_sem,hge']|refine aI ?_|simp only[go_sem,hge']
  refine bf (p:=huge s) fun h=>?_
  rcases h with h|h|h|⟨w,h1,h2⟩
  ·omega
  ·omega
  ·omega
  ·have:=hx.mem hge w h1;omega
theorem check0{s:Shop}:(check s=0)=valid s:=by unfold check;split<;>simp_all
theorem valid.small{s:Shop}(h:valid s): ¬huge s:=fun q=>by
 have h1:=h.1;have h2:=h.2.1;have h3:=h.2.2.1
 rcases q with q|q|q|⟨w,q1,q2⟩
 ·omega
 ·omega
 ·omega
 ·have:=(h.2.2.2.2.2.2 w q1).1;omega
theorem valid.mould{s:Shop}(h:valid s){i:Nat}{m:Mould}(hm:s.ms[i]? =some m):0≤m.page∧m.page<s.wt.length∧0≤m.used∧m.used≤12∧0≤m.broke∧m.broke≤1:=by
 have:=h.2.2.2.2.2.1 m (mem_of_getElem? hm)
 unfold okM within at this;omega
theorem valid.world{s:Shop}(h:valid s){i:Nat}{w:List Int}(hw:s.ws[i]? =some w):w.length=s.ms.length∧ ∀n,n∈w→0≤n∧n≤12:=h.2.2.2.2.2.2 w (mem_of_getElem? hw)
theorem valid.want{s:Shop}(h:valid s){i:Nat}{n:Int}(hn:s.wt[i]? =some n):0≤n∧n≤12:=h.2.2.2.2.1 n (mem_of_getElem? hn)
def agr1(m:Mould)(x:Int):Bool:=decide (m.used≤x)&&(!(decide (m.broke=1))||decide (x=m.used))
def agrB(s:Shop)(w:List Int):Bool:=(List.range s.ms.length).all fun i=>match s.ms[i]? with
 |some m=>agr1 m (gv w i)
 |none=>true
theorem agrB_iff{s:Shop}{w:List Int}:agrB s w=true↔ ∀(i:Nat) (m:Mould),s.ms[i]? =some m→agr1 m (gv w i)=true:=by
 simp only[agrB,List.all_eq_true,List.mem_range]
 constructor
 ·intro h i m hm
  have:=h i (List.getElem?_eq_some_iff.1 hm).1
  rw[hm]at this;exact this
 ·intro h i hi
  obtain⟨m,hm⟩:=get_of hi
  rw[hm];exact h i m hm
theorem agr1_iff{m:Mould}{x:Int}:agr1 m x=true↔m.used≤x∧(m.broke=1→x=m.used):=by
 simp only[agr1,Bool.and_eq_true,decide_eq_true_eq,Bool.or_eq_true,Bool.not_eq_true',decide_eq_false_iff_not]
 by_cases h:m.broke=1<;>simp[h]
theorem agrB_no{s:Shop}{w:List Int}{i:Nat}{m:Mould}(hm:s.ms[i]? =some m)(h: ¬(m.used≤gv w i∧(m.broke=1→gv w i=m.used))):agrB s w≠true:=fun q=>h (agr1_iff.1 (agrB_iff.1 q i m hm))
theorem agrB_yes{s:Shop}{w:List Int}{j:Nat}(h:allTo (fun i m=>agr1 m (gv w i)=true) s.ms j)(hj:s.ms.length≤j):agrB s w=true:=agrB_iff.2 fun i m hm=>h.all hj i m hm
def gw(s:Shop)(n:Int):List Int:=(s.ws[n.toNat]?).getD []
def gd(s:Shop)(n:Nat):Bool:=agrB s (gw s n)
theorem gw_of{s:Shop}{n:Nat}{w:List Int}(h:s.ws[n]? =some w):gw s n=w:=by simp[gw,h]
def wl(s:Shop):List Int:=selB (gd s) s.ws.length
def uo(s:Shop)(i:Int):Int:=match s.ms[i.toNat]? with|some m=>m.used|none=>0
def lf(s:Shop)(w:List Int)(i:Int):Int:=gv w i-uo s i
def aW(s:Shop):List (List Int):=s.ws.filter (agrB s)
def aT(s:Shop)(n:Nat):List (List Int):=(s.ws.take n).filter (agrB s)
theorem aT_zero{s:Shop}:aT s 0=[]:=rfl
theorem aT_yes{s:Shop}{n:Nat}{w:List Int}(hw:s.ws[n]? =some w)(h:agrB s w=true):aT s (n+1)=aT s n++[w]:=by simp[aT,take_add_one,hw,h,List.filter_append]
theorem aT_no{s:Shop}{n:Nat}{w:List Int}(hw:s.ws[n]? =some w)(h:agrB s w≠true):aT s (n+1)=aT s n:=by simp[aT,take_add_one,hw,h,List.filter_append]
theorem aT_all{s:Shop}{n:Nat}(h:s.ws.length≤n):aT s n=aW s:=by rw[aT,List.take_of_length_le h];rfl
theorem aT_len(s:Shop)(n:Nat):(aT s n).length≤n:=by
 have:=List.length_filter_le (agrB s) (s.ws.take n)
 rw[List.length_take]at this
 unfold aT;omega
theorem aW_mem{s:Shop}{w:List Int}(h:w∈aW s):w∈s.ws∧agrB s w=true:=List.mem_filter.1 h
theorem uo_of{s:Shop}{i:Nat}{m:Mould}(h:s.ms[i]? =some m):uo s i=m.used:=by simp[uo,h]
theorem valid.left{s:Shop}(h:valid s){w:List Int}(hw:w∈s.ws)(i:Nat)(hi:i<s.ms.length): -12≤lf s w i∧lf s w i≤12∧(agrB s w=true→0≤lf s w i):=by
 obtain⟨m,hm⟩:=get_of hi
 obtain⟨j,hj⟩:=List.mem_iff_getElem?.1 hw
 obtain⟨h1,h2⟩:=h.world hj
 obtain⟨x,hx⟩:=get_of (l:=w) (j:=i) (by omega)
 have h3:=h2 x (mem_of_getElem? hx)
 have h4:=h.mould hm
 unfold lf
 rw[uo_of hm,gv_nat hx]
 refine⟨by omega,by omega,fun ha=>?_⟩
 have:=(agr1_iff.1 (agrB_iff.1 ha i m hm)).1
 rw[gv_nat hx]at this;omega
def loW(s:Shop)(W:List (List Int))(i:Int):Int:=low (W.map fun w=>lf s w i)
def hiW(s:Shop)(W:List (List Int))(i:Int):Int:=high (W.map fun w=>lf s w i)
def lo(s:Shop)(i:Int):Int:=loW s (aW s) i
def hi(s:Shop)(i:Int):Int:=hiW s (aW s) i
theorem lo_bounds{s:Shop}(hv:valid s){W:List (List Int)}(hW: ∀w,w∈W→w∈s.ws∧agrB s w=true)(i:Nat)(hi:i<s.ms.length):0≤loW s W i∧loW s W i≤12∧0≤hiW s W i∧hiW s W i≤12:=by
 by_cases hn:W=[]
 ·subst hn;simp[loW,hiW,low,high]
 ·have hne:(W.map fun w=>lf s w i)≠[]:=by simpa using hn
  obtain⟨w,h1,h2⟩:=List.mem_map.1 (low_mem hne)
  obtain⟨w',h3,h4⟩:=List.mem_map.1 (high_mem hne)
  have b1:=hv.left (hW w h1).1 i hi
  have b2:=hv.left (hW w' h3).1 i hi
  have b3:=b1.2.2 (hW w h1).2
  have b4:=b2.2.2 (hW w' h3).2
  unfold loW hiW
  rw[←h2,← h4];omega
theorem loW_app{s:Shop}{W:List (List Int)}{w:List Int}{i:Int}:loW s (W++[w]) i=if W=[]then lf s w i else min (loW s W i) (lf s w i):=by
 simp[loW,low_app]
theorem hiW_app{s:Shop}{W:List (List Int)}{w:List Int}{i:Int}:hiW s (W++[w]) i=if W=[]then lf s w i else max (hiW s W i) (lf s w i):=by
 simp[hiW,high_app]
theorem hi_def{s:Shop}{i:Int}:hi s i=hiW s (aW s) i:=rfl
noncomputable def kn(s:Shop)(is:Prop):Int:=if valid s then if is then if aW s=[]then 3 else 0 else 1 else 20
theorem kn0{s:Shop}{is:Prop}:kn s is=0↔valid s∧is∧aW s≠[]:=by
 unfold kn
 by_cases hv:valid s<;>by_cases hi:is<;>by_cases hw:aW s=[]<;>simp[hv,hi,hw]
theorem check_valid{s:Shop}(hv:valid s):check s=0:=by simp[check,hv]
theorem check_no{s:Shop}(hv: ¬valid s):check s=20:=by simp[check,hv]
def ans{α:Type}(k:Int)(no x:α):α×Int:=if k=0 then(x,0)else(no,k)
theorem ans_yes{α:Type}{k:Int}{no x:α}(h:k=0):ans k no x=(x,0):=if_pos h
theorem ans_no{α:Type}{k:Int}{no x:α}(h: ¬k=0):ans k no x=(no,k):=if_neg h
theorem short_steps(d fr:Int)(hf:1≤fr): ∃(K:Nat) (D:Nat→Int),D 0=d∧(∀j,D (j+1)=D j-fr)∧(∀j:Nat,0<D j↔j<K)∧(∀j:Nat,j≤K→min d (1-fr)≤D j)∧(∀j,D j≤d)∧(K:Int)=(max 0 d+fr-1) / fr:=by
 have h1:=Int.mul_ediv_add_emod (max 0 d+fr-1) fr
 have h2:=Int.emod_lt_of_pos (max 0 d+fr-1) (show 0<fr by omega)
 have h3:=Int.emod_nonneg (max 0 d+fr-1) (show fr≠0 by omega)
 have h4:0≤(max 0 d+fr-1) / fr:=Int.ediv_nonneg (by omega) (by omega)
 generalize (max 0 d+fr-1) / fr=q at h1 h4 ⊢
 generalize (max 0 d+fr-1) % fr=r at h1 h2 h3
 have hq:q*fr=max 0 d+fr-1-r:=by rw[Int.mul_comm];omega
 have hq1:d≤0→q≤0:=fun hd=>by
  by_cases h:0<q
  ·have:1*fr≤q*fr:=Int.mul_le_mul_of_nonneg_right (by omega) (by omega)
   omega
  ·omega
 have hpos: ∀j:Nat,0<d-j*fr↔j<q.toNat:=by
  intro j
  constructor
  ·intro h
   by_cases hj:j<q.toNat
   ·exact hj
   ·have:q*fr≤j*fr:=Int.mul_le_mul_of_nonneg_right (by omega) (by omega)
    omega
  ·intro h
   have:((j:Int)+1)*fr≤q*fr:=Int.mul_le_mul_of_nonneg_right (by omega) (by omega)
   rw[Int.add_mul]at this
   omega
 refine⟨q.toNat,fun j=>d-j*fr,by simp,fun j=>by simp only[Int.natCast_add,Int.natCast_one,Int.add_mul];omega,hpos,fun j hj=>?_,fun j=>?_,by omega⟩
 ·have:(j:Int)*fr≤q*fr:=Int.mul_le_mul_of_nonneg_right (by omega) (by omega)
  show _≤d-j*fr
  by_cases hd:d≤0
  ·have:=hq1 hd
   have:j=0:=by omega
   subst this;simp;omega
  ·omega
 ·have:0≤(j:Int)*fr:=Int.mul_nonneg (by omega) (by omega)
  show d-j*fr≤d
  omega
def sur1(s:Shop)(p:Int)(k:Nat):Int:=match s.ms[k]? with|some m=>if m.page=p then lo s k else 0|none=>0
def surT(s:Shop)(p:Int):Nat→Int
 |0=>0
 |k+1=>surT s p k+sur1 s p k
def sur(s:Shop)(p:Int):Int:=surT s p s.ms.length
theorem sur1_bounds{s:Shop}(hv:valid s)(p:Int)(k:Nat):0≤sur1 s p k∧sur1 s p k≤12:=by
 unfold sur1
 split
 ·rename_i m hm
  have:=lo_bounds hv (W:=aW s) (fun w hw=>aW_mem hw) k (List.getElem?_eq_some_iff.1 hm).1
  split
  ·unfold lo;omega
  ·omega
 ·omega
theorem surT_bounds{s:Shop}(hv:valid s)(p:Int): ∀k:Nat,0≤surT s p k∧surT s p k≤12*k
 |0=>by simp[surT]
 |k+1=>by
  have:=surT_bounds hv p k
  have:=sur1_bounds hv p k
  simp only[surT];omega
theorem sur_bounds{s:Shop}(hv:valid s)(p:Int):0≤sur s p∧sur s p≤60:=by
 have:=surT_bounds hv p s.ms.length
 have:=hv.2.1
 unfold sur;omega
def ne1(s:Shop)(k:Nat):Int:=match s.wt[k]? with|some w=>(max 0 (w-sur s k)+s.fr-1) / s.fr|none=>0
def neT(s:Shop):Nat→Int
 |0=>0
 |k+1=>neT s k+ne1 s k
def neN(s:Shop):Int:=neT s s.wt.length
theorem ceil_bounds{d fr:Int}(hf:1≤fr)(hd:d≤12):0≤(max 0 d+fr-1) / fr∧(max 0 d+fr-1) / fr≤12:=by
 have h1:=Int.mul_ediv_add_emod (max 0 d+fr-1) fr
 have h2:=Int.emod_lt_of_pos (max 0 d+fr-1) (show 0<fr by omega)
 have h3:=Int.emod_nonneg (max 0 d+fr-1) (show fr≠0 by omega)
 have h4:0≤(max 0 d+fr-1) / fr:=Int.ediv_nonneg (by omega) (by omega)
 generalize (max 0 d+fr-1) / fr=q at h1 h4 ⊢
 generalize (max 0 d+fr-1) % fr=r at h1 h2 h3
 refine⟨h4,?_⟩
 by_cases hq:q≤12
 ·exact hq
 ·have:fr*13≤fr*q:=Int.mul_le_mul_of_nonneg_left (by omega) (by omega)
  omega
theorem ne1_bounds{s:Shop}(hv:valid s)(k:Nat):0≤ne1 s k∧ne1 s k≤12:=by
 have hf:=hv.2.2.2.1
 unfold within at hf
 unfold ne1
 split
 ·rename_i w hw
  have h1:=hv.want hw
  have h2:=sur_bounds hv (k:Int)
  exact ceil_bounds hf.1 (by omega)
 ·omega
theorem neT_bounds{s:Shop}(hv:valid s): ∀k:Nat,0≤neT s k∧neT s k≤12*k
 |0=>by simp[neT]
 |k+1=>by
  have:=neT_bounds hv k
  have:=ne1_bounds hv k
  simp only[neT];omega
noncomputable def rLeft(s:Shop)(i:Int):(Int×Int)×Int:=ans (kn s (within i 0 (s.ms.length-1))) (0,0) (lo s i,hi s i)
noncomputable def rNew(s:Shop):Int×Int:=ans (kn s True) 0 (neN s)
def cntP(p:List Int→Bool)(W:List (List Int)):Int:=(W.filter p).length
theorem cntP_app{p:List Int→Bool}{W:List (List Int)}{w:List Int}:cntP p (W++[w])=cntP p W+(if p w=true then 1 else 0):=by
 by_cases h:p w=true<;>simp[cntP,List.filter_append,h]
theorem cntP_bounds(p:List Int→Bool)(W:List (List Int)):0≤cntP p W∧cntP p W≤W.length:=by
 have:=List.length_filter_le p W
 unfold cntP;omega
theorem take_succ{α:Type}{l:List α}{j:Nat}{x:α}(h:l[j]? =some x):l.take (j+1)=l.take j++[x]:=by rw[take_add_one,h];rfl
theorem aW_len{s:Shop}(hv:valid s):(aW s).length≤6:=by
 have h6:=hv.2.2.1
 have:=List.length_filter_le (agrB s) s.ws
 unfold aW;omega
def zero0(s:Shop)(i:Int)(w:List Int):Bool:=decide (lf s w i=0)
def tired(s:Shop)(i:Int):Int:=cntP (zero0 s i) (aW s)
def worse(s:Shop)(i:Int):Int:=max (tired s i) ((aW s).length-tired s i)
def teT(s:Shop):Nat→Int×Int
 |0=>(-1,(aW s).length)
 |k+1=>if worse s k<(teT s k).2 then((k:Int),worse s k)else teT s k
theorem tired_bounds(s:Shop)(i:Int):0≤tired s i∧tired s i≤(aW s).length:=cntP_bounds _ _
theorem teT_bounds(s:Shop): ∀k:Nat,-1≤(teT s k).1∧(teT s k).1<k∧0≤(teT s k).2∧(teT s k).2≤(aW s).length∧((teT s k).1= -1↔(teT s k).2=(aW s).length)
 |0=>by simp[teT]
 |k+1=>by
  have ih:=teT_bounds s k
  have hb:=tired_bounds s (k:Int)
  unfold teT
  split
  ·simp only
   unfold worse at*
   omega
  ·omega
noncomputable def rTest(s:Shop):Int×Int:=ans (kn s True) 0 0 |> fun _=>if kn s True=0 then(if(teT s s.ms.length).1<0 then(0,3)else((teT s s.ms.length).1,0))else(0,kn s True)
theorem rTest_yes{s:Shop}(h:kn s True=0):rTest s=if(teT s s.ms.length).1<0 then(0,3)else((teT s s.ms.length).1,0):=if_pos h
theorem rTest_no{s:Shop}(h: ¬kn s True=0):rTest s=(0,kn s True):=if_neg h
noncomputable def rWorlds(s:Shop):List Int×Int:=ans (check s) [] (wl s)
theorem check_0{s:Shop}:check s=0↔valid s:=by unfold check;split<;>simp_all
end Go.Proofs.YtoadkchhimojlaaGreatDoor.W2
