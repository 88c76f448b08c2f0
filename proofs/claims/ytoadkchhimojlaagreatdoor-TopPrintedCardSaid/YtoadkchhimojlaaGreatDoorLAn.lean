/- Contracts of functions of the given program, without a condition beyond those that each theorem states; they lead to the given statement. -/
import Derived.Test.YtoadkchhimojlaaGreatDoorLAj
import Derived.Test.YtoadkchhimojlaaGreatDoorFlC
import Derived.Test.YtoadkchhimojlaaGreatDoorLAm
import Derived.Test.YtoadkchhimojlaaGreatDoorLAk
import Derived.Test.YtoadkchhimojlaaGreatDoorLAh
set_option linter.unusedSectionVars false
set_option linter.unusedSimpArgs false
set_option linter.unusedVariables false
set_option maxRecDepth 100000
open List(append_nil cons_append length_append length_cons length_map length_nil length_take map_cons map_map map_nil mem_of_getElem? nil_append take_add_one take_length take_zero)
open Go.Proofs.Tryz(prog)
namespace Go.Proofs.YtoadkchhimojlaaGreatDoor.OV
open Go Go.Fl
open Classical
def sZ12a_f25:Nat→List (Nat×Nat)
 |1=>[(0,0),(0,0),(0,0),(0,0),(0,1),(0,1),(0,1),(0,0),(0,2),(0,2),(0,2),(0,0),(1,3),(1,3),(0,0),(4,4),(4,4),(0,0),(5,5),(5,5),(0,0)]
 |2=>[(0,0),(0,0),(0,0),(0,0),(0,1),(0,1),(0,1),(0,0),(0,2),(0,2),(0,2),(0,0),(1,3),(1,3),(0,0),(4,4),(4,4),(0,0),(5,5),(5,5),(0,0)]
 |6=>[(0,1),(0,1),(0,1),(0,1),(0,0),(0,0),(1,1),(0,0)]
 |_=>[]
attribute [go_sem] sZ12a_f25
theorem shift_mapB{n:Nat}{l:List Bun}:List.map (shiftL n) (List.map encB l)=List.map encB l:=by
 rw[map_map];exact List.map_congr_left fun a _=>by simp[encB,shiftL,shiftV]
attribute [go_sem] shift_mapB
theorem h68(l:List Bun)(hl:l.length≤1000):HCH prog 68 [.lst false 3 (l.map encB)] [] fun r H'=>r= .row 0 l.length∧H'=[.row 83 3 (l.map encB) false]:=by
 refine HCH.bodyN Tryz.func68 (by kernel_rfl) rfl (by simp[Tryz.f68]) ?_
 simp only[Tryz.f68]
 refine CV.run ?_
 repeat' first|refine sP ?_ ?_<;>intro hb<;>(try rw[hb])<;>(try simp only[bb]at hb)<;>try simp only[go_sem]|refine aI ?_|simp only[go_sem]
 ·have:l=[]:=by simpa using hb
  subst this
  exact⟨_,.nilE 2 83 3 (by(simp only[go_sem])) (by omega) (.base (wk_same (env':=[(2,.row 0 0)]) (by(simp only[go_sem])))),rfl,rfl⟩
 ·exact⟨⟨by omega,by omega,.inl trivial⟩,_,.base (wk_same (env':=[(2,.row 0 l.length)]) (by(simp only[go_sem]))),rfl,rfl⟩
theorem h71(l:List (List Int))(hl:l.length≤1000):HCH prog 71 [.lst false 1 (l.map W2.encW)] [] fun r H'=>r= .row 0 l.length∧H'=[.row 24 1 (l.map W2.encW) false]:=by
 refine HCH.bodyN Tryz.func71 (by kernel_rfl) rfl (by simp[Tryz.f71]) ?_
 simp only[Tryz.f71]
 refine CV.run ?_
 repeat' first|refine sP ?_ ?_<;>intro hb<;>(try rw[hb])<;>(try simp only[bb]at hb)<;>try simp only[go_sem]|refine aI ?_|simp only[go_sem]
 ·have:l=[]:=by simpa using hb
  subst this
  exact⟨_,.nilE 2 24 1 (by(simp only[go_sem])) (by omega) (.base (wk_same (env':=[(2,.row 0 0)]) (by(simp only[go_sem])))),rfl,rfl⟩
 ·exact⟨⟨by omega,by omega,.inl trivial⟩,_,.base (wk_same (env':=[(2,.row 0 l.length)]) (by(simp only[go_sem]))),rfl,rfl⟩
set_option maxHeartbeats 4000000 in
theorem c25(t:Town)(hv:vT t):PC prog 25 [hT t] (hT t):=by
 obtain⟨⟨k1,k2,k3,k4,_⟩,v1,v2,v3,_,_,_,v7⟩:=id hv
 refine pB Tryz.func25 fun hlen=>CV.run ?_
 simp only[Tryz.f25]
 simp only[go_sem,length_map,and_true,true_and]at hlen
 repeat' first|refine sP ?_ ?_<;>intro hb<;>(try rw[hb])<;>(try simp only[bb]at hb)<;>try simp only[go_sem]|refine aI ?_|with_reducible refine dw sZ12a_f25 ?_|simp only[go_sem]
 refine dcAt (HCH.newAt (h67 t.h.ms (by omega)) rfl _) rfl ?_
 repeat' first|refine sP ?_ ?_<;>intro hb<;>(try rw[hb])<;>(try simp only[bb]at hb)<;>try simp only[go_sem]|refine aI ?_|with_reducible refine dw sZ12a_f25 ?_|simp only[go_sem]
 refine dcAt (HCH.newAt (h68 t.h.bs (by omega)) rfl _) rfl ?_
 repeat' first|refine sP ?_ ?_<;>intro hb<;>(try rw[hb])<;>(try simp only[bb]at hb)<;>try simp only[go_sem]|refine aI ?_|with_reducible refine dw sZ12a_f25 ?_|simp only[go_sem]
 refine dcAt (HCH.newAt (W2.h69 t.h.ts (by omega)) rfl _) rfl ?_
 repeat' first|refine sP ?_ ?_<;>intro hb<;>(try rw[hb])<;>(try simp only[bb]at hb)<;>try simp only[go_sem]|refine aI ?_|with_reducible refine dw sZ12a_f25 ?_|simp only[go_sem]
 refine dcAt (HCH.newAt (h70 t.s.ms (by omega)) rfl _) rfl ?_
 repeat' first|refine sP ?_ ?_<;>intro hb<;>(try rw[hb])<;>(try simp only[bb]at hb)<;>try simp only[go_sem]|refine aI ?_|with_reducible refine dw sZ12a_f25 ?_|simp only[go_sem]
 refine dcAt (HCH.newAt (W2.h69 t.s.wt (by omega)) rfl _) rfl ?_
 repeat' first|refine sP ?_ ?_<;>intro hb<;>(try rw[hb])<;>(try simp only[bb]at hb)<;>try simp only[go_sem]|refine aI ?_|with_reducible refine dw sZ12a_f25 ?_|simp only[go_sem]
 refine dcAt (HCH.newAt (h71 t.s.ws (by omega)) rfl _) rfl ?_
 repeat' first|refine sP ?_ ?_<;>intro hb<;>(try rw[hb])<;>(try simp only[bb]at hb)<;>try simp only[go_sem,length_map]|refine aI ?_|with_reducible refine dw sZ12a_f25 ?_|simp only[go_sem,length_map]
 refine vc_fw (fun j=>⟨[(45,.int .i64 j),(44,.int .i64 t.s.ws.length),(43,.row 7 t.s.ws.length),(1,.lp 0 0),(2,.lp 1 0)],[.box 35 [.row 2 t.h.ms.length,.row 3 t.h.bs.length,.row 4 t.h.ts.length,.int .i64 t.h.ch,.row 5 t.s.ms.length,.row 7 t.s.ws.length,.row 6 t.s.wt.length,.int .i64 t.s.fr] false,.box 35 z35 false,.row 110 3 (t.h.ms.map encM) false,.row 83 3 (t.h.bs.map encB) false,.row 3 1 (t.h.ts.map encN) false,.row 113 3 (t.s.ms.map W2.encD) false,.row 3 1 (t.s.wt.map encN) false,.row 24 1 (t.s.ws.map W2.encW) false]⟩) t.s.ws.length (fun _=>True) (.base (by exact w0)) trivial ?_
 intro j hj _
 rcases Nat.lt_or_ge j t.s.ws.length with hlt|hge
 ·obtain⟨w,hw⟩:=get_of hlt
  have hlt':(j:Int)<t.s.ws.length:=by omega
  have hwl:=(v7 w (mem_of_getElem? hw)).1
  have hset:(t.s.ws.map W2.encW).set j [lN w]=t.s.ws.map W2.encW:=by
   apply List.ext_getElem?
   intro i
   rw[List.getElem?_set]
   split
   ·rename_i q;subst q;rw[if_pos (by simpa using hlt),List.getElem?_map,hw];rfl
   ·rfl
  repeat' first|refine sP ?_ ?_<;>intro hb<;>(try rw[hb])<;>(try simp only[bb]at hb)<;>try simp only[go_sem,hlt',hw,W2.encW,length_map]|refine aI ?_|with_reducible refine dw sZ12a_f25 ?_|simp only[go_sem,hlt',hw,W2.encW,length_map]
  refine dCallC_here (append_nil _).symm ((W2.h69 w (by omega)).cloneL (frzL_self _ _ rfl)) ?_
  repeat' first|refine sP ?_ ?_<;>intro hb<;>(try rw[hb])<;>(try simp only[bb]at hb)<;>try simp only[go_sem,hlt',hw,W2.encW,hset,length_map]|refine aI ?_|with_reducible refine dw sZ12a_f25 ?_|simp only[go_sem,hlt',hw,W2.encW,hset,length_map]
  exact .base (by exact w0)
 ·have hge': ¬(j:Int)<t.s.ws.length:=by omega
  obtain rfl:j=t.s.ws.length:=by omega
  repeat' first|refine sP ?_ ?_<;>intro hb<;>(try rw[hb])<;>(try simp only[bb]at hb)<;>try simp only[go_sem,hge',frzE_self,pureM,pureB,pureN,W2.pureD,W2.pureW,length_map]|refine aI ?_|with_reducible refine dw sZ12a_f25 ?_|simp only[go_sem,hge',frzE_self,pureM,pureB,pureN,W2.pureD,W2.pureW,length_map]
def sZ12b_f7:Nat→List (Nat×Nat)
 |16=>[(0,1),(0,0),(0,0),(0,0),(0,0),(0,0),(0,0),(0,0),(0,0)]
 |17=>[(0,1),(0,0),(0,0),(0,0),(1,1),(0,2),(1,1),(0,0),(0,0),(3,3)]
 |_=>[]
attribute [go_sem] sZ12b_f7
def CorE(ws:List Str):Option (List Str)→Prop
 |none=>True
 |some w2=>opN w2≠0∧w2.length≤61∧ ∃w1,ws=lineT::w1::isT::w2∧allNum [w1]
def StepR(i:Int)(ws:List Str)(rs rs':List Rec):Prop:=
 (opN ws≠0∧rs'=rs++[⟨i,some ws⟩])∨(opN ws=0∧rs'=rs)∨(opN ws=0∧ ∃n e,rs'=corR rs n i e∧CorE ws e)
theorem word3{ws:List Str}{a b:Str}(h3:3<ws.length)(h0:ws.getD 0 []=a)(h2:ws.getD 2 []=b):ws=a::ws.getD 1 []::b::ws.drop 3:=by
 match ws,h3 with
 |x::y::z::r,_=>simp at h0 h2;subst h0 h2;rfl
theorem doA_step(t:Town)(rs:List Rec)(i:Int)(ws:List Str)(hl:ws.length≤61):StepR i ws rs (doA t rs i ws).2:=by
 rw[doA]
 by_cases hop:opN ws=0
 ·rw[if_pos hop]
  by_cases hq:qN ws=0
  ·rw[if_pos hq]
   by_cases h2:ws.length<2
   ·rw[if_pos h2];exact .inr (.inl ⟨hop,rfl⟩)
   ·rw[if_neg h2]
    by_cases hA:allNum [ws.getD 1 []]
    ·rw[if_pos hA,doL]
     by_cases a1:ws.getD 0 []=readsT
     ·rw[if_pos a1];split<;>exact .inr (.inl ⟨hop,rfl⟩)
     ·rw[if_neg a1]
      by_cases b1:ws.getD 0 []=atT
      ·rw[if_pos b1];split<;>exact .inr (.inl ⟨hop,rfl⟩)
      ·rw[if_neg b1]
       by_cases d1:ws.getD 0 []=lineT
       ·rw[if_pos d1]
        by_cases d2:3<ws.length
        ·rw[if_pos d2]
         by_cases d3:ws.getD 2 []=isT
         ·rw[if_pos d3]
          by_cases o3:opN (ws.drop 3)=0
          ·rw[if_pos o3]
           split
           ·split
            ·exact .inr (.inr ⟨hop,_,none,rfl,trivial⟩)
            ·exact .inr (.inl ⟨hop,rfl⟩)
           ·exact .inr (.inl ⟨hop,rfl⟩)
          ·rw[if_neg o3]
           exact .inr (.inr ⟨hop,_,some (ws.drop 3),rfl,o3,by rw[List.length_drop];omega,ws.getD 1 [],word3 d2 d1 d3,hA⟩)
         ·rw[if_neg d3];exact .inr (.inl ⟨hop,rfl⟩)
        ·rw[if_neg d2];exact .inr (.inl ⟨hop,rfl⟩)
       ·rw[if_neg d1];exact .inr (.inl ⟨hop,rfl⟩)
    ·rw[if_neg hA];exact .inr (.inl ⟨hop,rfl⟩)
  ·rw[if_neg hq];exact .inr (.inl ⟨hop,rfl⟩)
 ·rw[if_neg hop];exact .inl ⟨hop,rfl⟩
def okRs(rs:List Rec)(j:Nat):Prop:=(∀r,r∈rs→okR r)∧lineOk rs∧rs.length≤j
theorem step_ok{i:Int}{ws:List Str}{rs rs':List Rec}{j:Nat}(h:StepR i ws rs rs')(hl:ws.length≤61)(hi:0≤i∧i<60)(hk:okRs rs j):okRs rs' (j+1):=by
 obtain⟨h1,h2,h3⟩:=hk
 rcases h with⟨q,rfl⟩|⟨q,rfl⟩|⟨q,n,e,rfl,he⟩
 ·refine⟨fun r hr=>?_,fun r hr=>?_,by simp;omega⟩
  ·rcases List.mem_append.1 hr with hr|hr
   ·exact h1 r hr
   ·simp only[List.mem_singleton]at hr;subst hr
    intro w hw;cases hw;exact⟨q,hl⟩
  ·rcases List.mem_append.1 hr with hr|hr
   ·exact h2 r hr
   ·simp only[List.mem_singleton]at hr;subst hr
    exact⟨hi.1,by have:=hi.2;simp only;omega⟩
 ·exact⟨h1,h2,by omega⟩
 ·have he2:okR ⟨0,e⟩:=fun w hw=>by
   cases e with
   |none=>cases hw
   |some w2=>cases hw;exact⟨he.1,he.2.1⟩
  refine⟨fun r hr=>?_,fun r hr=>?_,by rw[corR_len];omega⟩
  ·unfold corR at hr;split at hr
   ·exact h1 r hr
   ·exact okR_mod h1 he2 hr
  ·unfold corR at hr;split at hr
   ·exact h2 r hr
   ·exact lineOk_mod h2 hr
noncomputable def runTo(t:Town)(ls:List Str):Nat→List Str×List Rec
 |0=>([],[])
 |j+1=>((runTo t ls j).1++[(doA t (runTo t ls j).2 j (splitP (ls.getD j []))).1],(doA t (runTo t ls j).2 j (splitP (ls.getD j []))).2)
theorem runTo_len(t:Town)(ls:List Str): ∀j,(runTo t ls j).1.length=j
 |0=>rfl
 |j+1=>by rw[runTo,length_append,runTo_len t ls j];rfl
theorem runTo_ok(t:Town){ls:List Str}(hs:shortW ls): ∀j,j≤60→okRs (runTo t ls j).2 j
 |0,_=>⟨fun r hr=>by simp[runTo]at hr,fun r hr=>by simp[runTo]at hr,Nat.le_refl _⟩
 |j+1,hj=>by
  have hl:(splitP (ls.getD j [])).length≤61:=by
   have h1:=splitP_len (ls.getD j [])
   have h2:(ls.getD j []).length≤60:=by
    rw[List.getD_eq_getElem?_getD]
    cases e:ls[j]? with
    |none=>simp
    |some w=>exact hs w (mem_of_getElem? e)
   omega
  exact step_ok (doA_step t _ j _ hl) hl ⟨by omega,by omega⟩ (runTo_ok t hs j (by omega))
noncomputable def stBk(bk:List Str)(x:Rec×Bool):List Str:=if x.2=true then(match x.1.reads with
 |some w=>bk++[lineW w]
 |none=>bk)else bk
theorem book_st{i:Nat}{s:List Str}{x:Rec×Bool}(h:s.length≤i):(stBk s x).length≤i+1:=by
 unfold stBk
 split
 ·split
  ·simp only[length_append,length_cons,length_nil];omega
  ·omega
 ·omega
theorem book_ge: ∀(L:List (Rec×Bool)) (s:List Str),(List.foldl stBk s L).length≤s.length+L.length
 |[],s=>Nat.le_refl _
 |x::L,s=>by
  have h1:=book_ge L (stBk s x)
  have h2:=book_st (x:=x) (Nat.le_refl s.length)
  simp only[List.foldl_cons,length_cons];omega
theorem book_len(line:Int)(t:Town)(R:List Rec)(h:R.length≤60):(List.foldl stBk [] (goesL line t R)).length≤60:=by
 have h1:=book_ge (goesL line t R) []
 have h2:=goesL_len line R t
 simp only[length_nil]at h1;omega
noncomputable def bookF(t:Town)(ls:List Str):List Str:=List.foldl stBk [] (goesL ls.length t (runTo t ls ls.length).2)
noncomputable abbrev runV(t:Town)(ls:List Str):AV:= .tup [.lst false 1 (strs (runTo t ls ls.length).1),hT (townF ls.length t (runTo t ls ls.length).2),.lst false 1 (strs (bookF t ls)),.int .i64 0]
set_option maxHeartbeats 4000000 in
theorem c7(t:Town)(hv:vT t)(f:Bool)(ls:List Str)(hl:ls.length≤24)(hs:shortW ls):PC prog 7 [hT t,.lst f 1 (strs ls)] (runV t ls):=by
 have h22:=c22 t
 rw[if_pos hv]at h22
 have hl': ¬(24:Int)<ls.length:=by omega
 have hpu:(runV t ls).pure=true:=by simp[AV.pure,AV.pureL]
 refine PC.body Tryz.func7 (by kernel_rfl) rfl (by simp[Tryz.f7]) hpu ?_
 simp only[Tryz.f7]
 intro hlen
 simp only[go_sem,length_map,and_true,true_and]at hlen
 refine CV.run ?_
 repeat' first|refine sP ?_ ?_<;>intro hb<;>(try rw[hb])<;>(try simp only[bb]at hb)<;>try simp only[go_sem,hl',strs_len]|refine aI ?_|with_reducible refine dw sZ12b_f7 ?_|with_reducible refine cq h22 ?_|simp only[go_sem,hl',strs_len]
 refine vc_fw (fun j=>⟨[(28,.int .i64 j),(27,.int .i64 ls.length),(26,.lst f 1 (strs ls)),(4,.row 4 j),(9,.lp 3 0),(1,.lst f 1 (strs ls)),(5,.lp 1 0),(6,.lp 2 0),(7,.int .i64 0)],HD t (runTo t ls j).2 (runTo t ls j).1⟩) ls.length (fun _=>True) (.nilE 4 9 1 (by(simp only[go_sem])) (by omega) (.nilB 3 8 72 2 rfl rfl (by omega) (.base (by(first|exact wk_same (by simp only[go_sem,ic,runTo,strs,map_nil])|(refine wk_drop ?_ ?_ ?_ ?_ ?_<;>simp only[go_sem,ic,runTo,strs,map_nil])))))) trivial ?_
 intro j hj _
 obtain⟨o1,o2,o3⟩:=runTo_ok t hs j (by omega)
 have hrl:=runTo_len t ls j
 rcases Nat.lt_or_ge j ls.length with hlt|hge
 ·obtain⟨w,hw⟩:=get_of hlt
  have hlt':(j:Int)<ls.length:=by omega
  have hwl:=hs w (mem_of_getElem? hw)
  have hwg:ls.getD j []=w:=by simp[List.getD,hw]
  repeat' first|refine sP ?_ ?_<;>intro hb<;>(try rw[hb])<;>(try simp only[bb]at hb)<;>try simp only[go_sem,hlt',hw,strs_len]|refine aI ?_|with_reducible refine dw sZ12b_f7 ?_|simp only[go_sem,hlt',hw,strs_len]
  refine vcP_here (c23 t hv (runTo t ls j).2 (runTo t ls j).1 (by omega) o1 o2 j ⟨by omega,by omega⟩ w hwl _ rfl) ?_
  rintro r H' ⟨rfl,hH⟩
  rw[hH]
  repeat' first|refine sP ?_ ?_<;>intro hb<;>(try rw[hb])<;>(try simp only[bb]at hb)<;>try simp only[go_sem,hrl,strs_len]|refine aI ?_|with_reducible refine dw sZ12b_f7 ?_|simp only[go_sem,hrl,strs_len]
  have e1:(runTo t ls (j+1)).2=(doA t (runTo t ls j).2 j (splitP w)).2:=by rw[runTo,hwg]
  have e2:strs (runTo t ls (j+1)).1=strs (runTo t ls j).1++[[.str (doA t (runTo t ls j).2 j (splitP w)).1]]:=by rw[runTo,hwg];simp[strs]
  exact .base (by(first|exact wk_same (by simp only[go_sem,ic,e1,e2])|(refine wk_drop ?_ ?_ ?_ ?_ ?_<;>simp only[go_sem,ic,e1,e2])))
 ·have hge': ¬(j:Int)<ls.length:=by omega
  obtain rfl:j=ls.length:=by omega
  repeat' first|refine sP ?_ ?_<;>intro hb<;>(try rw[hb])<;>(try simp only[bb]at hb)<;>try simp only[go_sem,hge',strs_len]|refine aI ?_|with_reducible refine dw sZ12b_f7 ?_|simp only[go_sem,hge',strs_len]
  refine vcP_here (c24 _ 6 ls.length rfl) ?_
  rintro r H' ⟨rfl,hH⟩
  rw[hH]
  have hbk:bookF t ls=List.foldl stBk [] (goesL ls.length t (runTo t ls ls.length).2):=rfl
  generalize (runTo t ls ls.length).2=R at*
  generalize (runTo t ls ls.length).1=A at*
  have hbl:(bookF t ls).length≤60:=by rw[hbk];exact book_len ls.length t R (by omega)
  repeat' first|refine sP ?_ ?_<;>intro hb<;>(try rw[hb])<;>(try simp only[bb]at hb)<;>try simp only[go_sem,cons_append,nil_append]|refine aI ?_|with_reducible refine dw sZ12b_f7 ?_|simp only[go_sem,cons_append,nil_append]
  rw[vc_range_eq]
  refine CV.wn (st':=⟨[(42,.fn 66 [.lp 6 0,.lp 7 0]),(1,.lst f 1 (strs ls)),(4,.row 4 ls.length),(5,.lp 1 0),(6,.lp 2 0),(7,.int .i64 0),(9,.lp 3 0)],[.box 35 (cT t) false,.box 35 z35 false,.box 33 [.row 8 ([]:List Str).length] false,.box 66 (HDK t R) false,.row 9 1 (strs A) false,.row 72 2 (R.map encR) false,.box 120 [.lp 3 0] false,.box 3 [.int .i64 ls.length] false,.row 9 1 (strs ([]:List Str)) false]⟩) (.nilB 2 0 9 1 rfl rfl (by omega) (.base (T4.wk_eq (by(simp only[go_sem,strs,map_nil])) (by(simp only[go_sem]))))) ?_
  refine CV.rangeP rfl (Nat.zero_le _) ([.box 35 (cT t) false,.box 35 z35 false,.box 33 [.row 8 (bookF t ls).length] false,.box 66 (HDK t R) false,.row 9 1 (strs A) false,.row 72 2 (R.map encR) false,.box 120 [.lp 3 0] false,.box 3 [.int .i64 ls.length] false,.row 9 1 (strs (bookF t ls)) false]) rfl (by(try(simp only[go_sem,belowH]))<;>(try simp)<;>(try omega)) (by(try(simp only[go_sem,belowH]))<;>(try simp)<;>(try omega)) (fun l=>?_) ?_
  ·have hd2: ∀q:List Str,Desk t R 9 ([.box 35 (cT t) false,.box 35 z35 false,.box 33 [.row 8 q.length] false,.box 66 (HDK t R) false,.row 9 1 (strs A) false,.row 72 2 (R.map encR) false,.box 120 [.lp 3 0] false,.box 3 [.int .i64 ls.length] false,.row 9 1 (strs q) false]):=fun q=>⟨rfl,by decide,fun k=>by(try(simp only[go_sem,belowH]))<;>(try simp)<;>(try omega),rfl,rfl⟩
   rw[hbk]
   refine c66L t hv R (by omega) o1 ls.length 9 l 6 _ _ _ _ _ (fun q=>[.box 35 (cT t) false,.box 35 z35 false,.box 33 [.row 8 q.length] false,.box 66 (HDK t R) false,.row 9 1 (strs A) false,.row 72 2 (R.map encR) false,.box 120 [.lp 3 0] false,.box 3 [.int .i64 ls.length] false,.row 9 1 (strs q) false]) stBk (fun i q=>q.length≤i) hd2 ?_ (fun s=>rfl) (fun s=>rfl) (fun i s x h=>book_st h) (fun i s r hd own hi ha hr hh=>?_) [] (Nat.le_refl _)
   ·intro k
    (try(simp only[go_sem,belowH]))<;>(try simp)<;>(try omega)
   have hw1:((AV.agg (encR r)).pure)=true:=by simp[AV.pure,AV.pureL,encR,rdV_pure]
   refine HCY.body2 (H:=[.box 35 (cT t) false,.box 35 z35 false,.box 33 [.row 8 s.length] false,.box 66 (HDK t R) false,.row 9 1 (strs A) false,.row 72 2 (R.map encR) false,.box 120 [.lp 3 0] false,.box 3 [.int .i64 ls.length] false,.row 9 1 (strs s) false]) (H':=[.box 35 (cT t) false,.box 35 z35 false,.box 33 [.row 8 (stBk s (r,hd)).length] false,.box 66 (HDK t R) false,.row 9 1 (strs A) false,.row 72 2 (R.map encR) false,.box 120 [.lp 3 0] false,.box 3 [.int .i64 ls.length] false,.row 9 1 (strs (stBk s (r,hd))) false]) ?_ ?_ rfl (by(try(simp only[go_sem,belowH]))<;>(try simp)<;>(try omega)) ?_ ?_ ?_ ?_
   ·decide
   ·decide
   ·(try(simp only[go_sem,belowH]))<;>(try simp)<;>(try omega)
   ·exact hw1
   ·rfl
   have hsl:s.length≤60:=by omega
   obtain⟨rl,rr⟩:=r
   cases hd with
   |false=>
    have e:stBk s (⟨rl,rr⟩,false)=s:=rfl
    cases rr<;>repeat' first|refine sP ?_ ?_<;>intro hb<;>(try rw[hb])<;>(try simp only[bb]at hb)<;>try simp only[go_sem,encR,rdV,strs_len]|refine aI ?_|with_reducible refine dw sZ12b_f7 ?_|simp only[go_sem,encR,rdV,strs_len]
    all_goals exact .base (by(first|exact wk_same (by simp only[go_sem,ic,e,length_append,length_cons,length_nil])|(refine wk_drop ?_ ?_ ?_ ?_ ?_<;>simp only[go_sem,ic,e,length_append,length_cons,length_nil])))
   |true=>
    obtain⟨ws,rfl⟩: ∃ws,rr=some ws:=hh rfl
    have hce:cE ws=[.str (lineW ws),.fn (opN ws) (caps ws)]:=rfl
    have e:stBk s (⟨rl,some ws⟩,true)=s++[lineW ws]:=rfl
    have e2:strs (s++[lineW ws])=strs s++[[.str (lineW ws)]]:=by simp[strs]
    repeat' first|refine sP ?_ ?_<;>intro hb<;>(try rw[hb])<;>(try simp only[bb]at hb)<;>try simp only[go_sem,encR,rdV,hce,strs_len]|refine aI ?_|with_reducible refine dw sZ12b_f7 ?_|simp only[go_sem,encR,rdV,hce,strs_len]
    exact .base (by(first|exact wk_same (by simp only[go_sem,ic,e,e2,length_append,length_cons,length_nil])|(refine wk_drop ?_ ?_ ?_ ?_ ?_<;>simp only[go_sem,ic,e,e2,length_append,length_cons,length_nil])))
  ·have hdB:Desk t R 9 ([.box 35 (cT t) false,.box 35 z35 false,.box 33 [.row 8 (bookF t ls).length] false,.box 66 (HDK t R) false,.row 9 1 (strs A) false,.row 72 2 (R.map encR) false,.box 120 [.lp 3 0] false,.box 3 [.int .i64 ls.length] false,.row 9 1 (strs (bookF t ls)) false]):=⟨rfl,by decide,fun k=>by(try(simp only[go_sem,belowH]))<;>(try simp)<;>(try omega),rfl,rfl⟩
   have h25:=c25 (townF ls.length t R) (townF_ok ls.length hv)
   repeat' first|refine sP ?_ ?_<;>intro hb<;>(try rw[hb])<;>(try simp only[bb]at hb)<;>try simp only[go_sem]|refine aI ?_|with_reducible refine dw sZ12b_f7 ?_|simp only[go_sem]
   refine dcAt (c26 t hv R (by omega) o1 ls.length _ 9 hdB) rfl ?_
   repeat' first|refine sP ?_ ?_<;>intro hb<;>(try rw[hb])<;>(try simp only[bb]at hb)<;>try simp only[go_sem,cons_append,nil_append]|refine aI ?_|with_reducible refine dw sZ12b_f7 ?_|with_reducible refine cq h25 ?_|simp only[go_sem,cons_append,nil_append]
   exact hrl
def sZ12c_f8(_:Nat):List (Nat×Nat):=[(0,0),(0,0),(0,0),(0,0),(0,0),(0,0),(0,0),(0,0)]
attribute [go_sem] sZ12c_f8
def hugeT(t:Town):Prop:=hugeG t.h∨W2.huge t.s
theorem c15(t:Town):PC prog 15 [hT t] (.bool (decide (hugeT t))):=by
 have h43:=c43 t.h
 have h44:=W2.c44 t.s
 by_cases h1:hugeG t.h
 ·rw[show decide (hugeT t)=true from decide_eq_true (Or.inl h1)]
  simp only[h1,decide_true]at h43
  refine pB Tryz.func15 fun hlen=>CV.run ?_
  simp only[Tryz.f15]
  simp only[go_sem,length_map,and_true,true_and]at hlen
  repeat' first|refine sP ?_ ?_<;>intro hb<;>(try rw[hb])<;>(try simp only[bb]at hb)<;>try simp only[go_sem]|refine aI ?_|with_reducible refine cq h43 ?_|with_reducible refine cq h44 ?_|simp only[go_sem]
 ·simp only[h1,decide_false]at h43
  by_cases h2:W2.huge t.s
  ·simp only[h2,decide_true]at h44
   rw[show decide (hugeT t)=true from decide_eq_true (Or.inr h2)]
   refine pB Tryz.func15 fun hlen=>CV.run ?_
   simp only[Tryz.f15]
   simp only[go_sem,length_map,and_true,true_and]at hlen
   repeat' first|refine sP ?_ ?_<;>intro hb<;>(try rw[hb])<;>(try simp only[bb]at hb)<;>try simp only[go_sem]|refine aI ?_|with_reducible refine cq h43 ?_|with_reducible refine cq h44 ?_|simp only[go_sem]
  ·simp only[h2,decide_false]at h44
   rw[show decide (hugeT t)=false from decide_eq_false (by rintro(q|q);exact h1 q;exact h2 q)]
   refine pB Tryz.func15 fun hlen=>CV.run ?_
   simp only[Tryz.f15]
   simp only[go_sem,length_map,and_true,true_and]at hlen
   repeat' first|refine sP ?_ ?_<;>intro hb<;>(try rw[hb])<;>(try simp only[bb]at hb)<;>try simp only[go_sem]|refine aI ?_|with_reducible refine cq h43 ?_|with_reducible refine cq h44 ?_|simp only[go_sem]
theorem c5(t:Town):PC prog 5 [hT t] (.int .i64 (if vT t then 0 else 120)):=by
 have h17:=c17 t.h
 have h18:=W2.c18 t.s
 by_cases h1:okG t.h
 ·rw[show checkG t.h=0 from checkG0▸h1]at h17
  by_cases h2:W2.valid t.s
  ·rw[show W2.check t.s=0 from if_pos h2]at h18
   rw[if_pos ⟨h1,h2⟩]
   refine pB Tryz.func5 fun hlen=>CV.run ?_
   simp only[Tryz.f5]
   simp only[go_sem,length_map,and_true,true_and]at hlen
   repeat' first|refine sP ?_ ?_<;>intro hb<;>(try rw[hb])<;>(try simp only[bb]at hb)<;>try simp only[go_sem]|refine aI ?_|with_reducible refine cq h17 ?_|with_reducible refine cq h18 ?_|simp only[go_sem]
  ·rw[show W2.check t.s=20 from if_neg h2]at h18
   rw[if_neg fun q=>h2 q.2]
   refine pB Tryz.func5 fun hlen=>CV.run ?_
   simp only[Tryz.f5]
   simp only[go_sem,length_map,and_true,true_and]at hlen
   repeat' first|refine sP ?_ ?_<;>intro hb<;>(try rw[hb])<;>(try simp only[bb]at hb)<;>try simp only[go_sem]|refine aI ?_|with_reducible refine cq h17 ?_|with_reducible refine cq h18 ?_|simp only[go_sem]
 ·rw[show checkG t.h=40 from if_neg h1]at h17
  rw[if_neg fun q=>h1 q.1]
  refine pB Tryz.func5 fun hlen=>CV.run ?_
  simp only[Tryz.f5]
  simp only[go_sem,length_map,and_true,true_and]at hlen
  repeat' first|refine sP ?_ ?_<;>intro hb<;>(try rw[hb])<;>(try simp only[bb]at hb)<;>try simp only[go_sem]|refine aI ?_|with_reducible refine cq h17 ?_|with_reducible refine cq h18 ?_|simp only[go_sem]
theorem c8(t:Town)(h: ¬hugeT t):PC prog 8 [hT t] (hT t):=by
 have h27:=c27 t.h fun q=>h (.inl q)
 have h28:=W2.c28 t.s fun q=>h (.inr q)
 refine pB Tryz.func8 fun hlen=>CV.run ?_
 simp only[Tryz.f8]
 simp only[go_sem,length_map,and_true,true_and]at hlen
 repeat' first|refine sP ?_ ?_<;>intro hb<;>(try rw[hb])<;>(try simp only[bb]at hb)<;>try simp only[go_sem]|refine aI ?_|with_reducible refine dw sZ12c_f8 ?_|with_reducible refine cq h27 ?_|with_reducible refine cq h28 ?_|simp only[go_sem]
def bundleT:Str:=[98,117,110,100,108,101]
noncomputable def isB(w:Str):Bool:=decide ((readF w).word=bundleT)
noncomputable def cntB(ls:List Str):Nat:=(ls.filter isB).length
def longT(ls:List Str):Prop:=60<ls.length∨ ∃w,w∈ls∧60<w.length
def farT(t:Town)(ls:List Str):Prop:=hugeT t∨longT ls∨(4<t.h.bs.length+cntB ls∧vT t)
theorem c4n(t:Town):PC prog 4 [hT t,.nilS] (.bool (decide (hugeT t∨(4<t.h.bs.length∧vT t)))):=by
 have h15:=c15 t
 have h5:=c5 t
 by_cases h1:hugeT t
 ·rw[decide_eq_true h1]at h15
  rw[decide_eq_true (.inl h1)]
  refine pB Tryz.func4 fun hlen=>CV.run ?_
  simp only[Tryz.f4]
  simp only[go_sem,length_map,and_true,true_and]at hlen
  repeat' first|refine sP ?_ ?_<;>intro hb<;>(try rw[hb])<;>(try simp only[bb]at hb)<;>try simp only[go_sem]|refine aI ?_|with_reducible refine cq h15 ?_|simp only[go_sem]
 ·rw[decide_eq_false h1]at h15
  by_cases h2:4<t.h.bs.length
  ·have h2':(4:Int)<t.h.bs.length:=by omega
   by_cases h3:vT t
   ·rw[if_pos h3]at h5
    rw[decide_eq_true (.inr ⟨h2,h3⟩)]
    refine pB Tryz.func4 fun hlen=>CV.run ?_
    simp only[Tryz.f4]
    simp only[go_sem,length_map,and_true,true_and]at hlen
    repeat' first|refine sP ?_ ?_<;>intro hb<;>(try rw[hb])<;>(try simp only[bb]at hb)<;>try simp only[go_sem,h2']|refine aI ?_|with_reducible refine cq h15 ?_|simp only[go_sem,h2']
    refine vc_for (fun j=>⟨[(6,.int .i64 j),(5,.int .i64 t.h.bs.length),(1,.nilS),(2,.lp 0 0)],[.box 35 (cT t) false]⟩) 0 (fun _=>True) (by exact w0) trivial ?_
    intro j hj _
    obtain rfl:j=0:=by omega
    repeat' first|refine sP ?_ ?_<;>intro hb<;>(try rw[hb])<;>(try simp only[bb]at hb)<;>try simp only[go_sem,h2']|refine aI ?_|with_reducible refine cq h5 ?_|simp only[go_sem,h2']
   ·rw[if_neg h3]at h5
    rw[decide_eq_false (by rintro(q|q);exact h1 q;exact h3 q.2)]
    refine pB Tryz.func4 fun hlen=>CV.run ?_
    simp only[Tryz.f4]
    simp only[go_sem,length_map,and_true,true_and]at hlen
    repeat' first|refine sP ?_ ?_<;>intro hb<;>(try rw[hb])<;>(try simp only[bb]at hb)<;>try simp only[go_sem,h2']|refine aI ?_|with_reducible refine cq h15 ?_|simp only[go_sem,h2']
    refine vc_for (fun j=>⟨[(6,.int .i64 j),(5,.int .i64 t.h.bs.length),(1,.nilS),(2,.lp 0 0)],[.box 35 (cT t) false]⟩) 0 (fun _=>True) (by exact w0) trivial ?_
    intro j hj _
    obtain rfl:j=0:=by omega
    repeat' first|refine sP ?_ ?_<;>intro hb<;>(try rw[hb])<;>(try simp only[bb]at hb)<;>try simp only[go_sem,h2']|refine aI ?_|with_reducible refine cq h5 ?_|simp only[go_sem,h2']
  ·have h2': ¬(4:Int)<t.h.bs.length:=by omega
   rw[decide_eq_false (by rintro(q|q);exact h1 q;exact h2 q.1)]
   refine pB Tryz.func4 fun hlen=>CV.run ?_
   simp only[Tryz.f4]
   simp only[go_sem,length_map,and_true,true_and]at hlen
   repeat' first|refine sP ?_ ?_<;>intro hb<;>(try rw[hb])<;>(try simp only[bb]at hb)<;>try simp only[go_sem,h2']|refine aI ?_|with_reducible refine cq h15 ?_|simp only[go_sem,h2']
   refine vc_for (fun j=>⟨[(6,.int .i64 j),(5,.int .i64 t.h.bs.length),(1,.nilS),(2,.lp 0 0)],[.box 35 (cT t) false]⟩) 0 (fun _=>True) (by exact w0) trivial ?_
   intro j hj _
   obtain rfl:j=0:=by omega
   repeat' first|refine sP ?_ ?_<;>intro hb<;>(try rw[hb])<;>(try simp only[bb]at hb)<;>try simp only[go_sem,h2']|refine aI ?_|with_reducible refine cq h5 ?_|simp only[go_sem,h2']
set_option maxHeartbeats 2000000 in
theorem c4(t:Town)(f:Bool)(ls:List Str):PC prog 4 [hT t,.lst f 1 (strs ls)] (.bool (decide (farT t ls))):=by
 have h15:=c15 t
 have h5:=c5 t
 by_cases h1:hugeT t
 ·rw[decide_eq_true h1]at h15
  rw[decide_eq_true (show farT t ls from .inl h1)]
  refine pB Tryz.func4 fun hlen=>CV.run ?_
  simp only[Tryz.f4]
  simp only[go_sem,length_map,and_true,true_and]at hlen
  repeat' first|refine sP ?_ ?_<;>intro hb<;>(try rw[hb])<;>(try simp only[bb]at hb)<;>try simp only[go_sem,strs_len]|refine aI ?_|with_reducible refine cq h15 ?_|simp only[go_sem,strs_len]
 ·rw[decide_eq_false h1]at h15
  have hnb:t.h.bs.length≤40:=(not_hugeG fun q=>h1 (.inl q)).2.1
  by_cases h6:60<ls.length
  ·have h6':(60:Int)<ls.length:=by omega
   rw[decide_eq_true (show farT t ls from .inr (.inl (.inl h6)))]
   refine pB Tryz.func4 fun hlen=>CV.run ?_
   simp only[Tryz.f4]
   simp only[go_sem,length_map,and_true,true_and]at hlen
   repeat' first|refine sP ?_ ?_<;>intro hb<;>(try rw[hb])<;>(try simp only[bb]at hb)<;>try simp only[go_sem,h6',strs_len]|refine aI ?_|with_reducible refine cq h15 ?_|simp only[go_sem,h6',strs_len]
  ·have h6': ¬(60:Int)<ls.length:=by omega
   refine pB Tryz.func4 fun hlen=>CV.run ?_
   simp only[Tryz.f4]
   simp only[go_sem,length_map,and_true,true_and]at hlen
   repeat' first|refine sP ?_ ?_<;>intro hb<;>(try rw[hb])<;>(try simp only[bb]at hb)<;>try simp only[go_sem,h6',strs_len]|refine aI ?_|with_reducible refine cq h15 ?_|simp only[go_sem,h6',strs_len]
   refine vc_for (fun j=>⟨[(6,.int .i64 j),(5,.int .i64 (t.h.bs.length+cntB (ls.take j):Nat)),(1,.lst f 1 (strs ls)),(2,.lp 0 0)],[.box 35 (cT t) false]⟩) ls.length (fun j=> ∀k,k<j→ ∀w,ls[k]? =some w→w.length≤60) (by(first|exact wk_same (by simp only[go_sem,ic,cntB,take_zero,List.filter_nil,length_nil,Nat.add_zero])|(refine wk_drop ?_ ?_ ?_ ?_ ?_<;>simp only[go_sem,ic,cntB,take_zero,List.filter_nil,length_nil,Nat.add_zero]))) (fun k h=>by omega) ?_
   intro j hj hx
   have hcj:cntB (ls.take j)≤j:=by unfold cntB;exact Nat.le_trans (List.length_filter_le _ _) (by rw[length_take];omega)
   rcases Nat.lt_or_ge j ls.length with hlt|hge
   ·obtain⟨w,hw⟩:=get_of hlt
    have hlt':(j:Int)<ls.length:=by omega
    have hj0:(0≤(j:Int))=True:=eq_true (by omega)
    by_cases hwl:60<w.length
    ·have hwl':(60:Int)<w.length:=by omega
     rw[decide_eq_true (show farT t ls from .inr (.inl (.inr ⟨w,mem_of_getElem? hw,hwl⟩)))]
     repeat' first|refine sP ?_ ?_<;>intro hb<;>(try rw[hb])<;>(try simp only[bb]at hb)<;>try simp only[go_sem,hlt',hj0,hw,hwl',strs_len]|refine aI ?_|simp only[go_sem,hlt',hj0,hw,hwl',strs_len]
    ·have hwl': ¬(60:Int)<w.length:=by omega
     have h16:=c16 w (by omega)
     have e:ls.take (j+1)=ls.take j++[w]:=by rw[take_add_one,hw];rfl
     have e2:cntB (ls.take (j+1))=cntB (ls.take j)+if(readF w).word=bundleT then 1 else 0:=by
      rw[e,cntB,List.filter_append,length_append,cntB]
      congr 1
      by_cases q:(readF w).word=bundleT<;>simp[isB,q]
     have hnx: ∀k,k<j+1→ ∀u,ls[k]? =some u→u.length≤60:=fun k hk u hu=>by
      rcases Nat.lt_or_ge k j with q|q
      ·exact hx k q u hu
      ·obtain rfl:k=j:=by omega
       rw[hw]at hu;cases hu;omega
     by_cases hb:(readF w).word=bundleT
     ·rw[if_pos hb]at e2
      have hb':(readF w).word=[98,117,110,100,108,101]:=hb
      repeat' first|refine sP ?_ ?_<;>intro hb<;>(try rw[hb])<;>(try simp only[bb]at hb)<;>try simp only[go_sem,hlt',hj0,hw,hwl',hb',strs_len]|refine aI ?_|with_reducible refine cq h16 ?_|simp only[go_sem,hlt',hj0,hw,hwl',hb',strs_len]
      exact⟨by(first|exact wk_same (by simp only[go_sem,ic,e2,Int.natCast_add,← Nat.add_assoc])|(refine wk_drop ?_ ?_ ?_ ?_ ?_<;>simp only[go_sem,ic,e2,Int.natCast_add,← Nat.add_assoc])),hnx⟩
     ·rw[if_neg hb]at e2
      have hb': ¬(readF w).word=[98,117,110,100,108,101]:=hb
      repeat' first|refine sP ?_ ?_<;>intro hb<;>(try rw[hb])<;>(try simp only[bb]at hb)<;>try simp only[go_sem,hlt',hj0,hw,hwl',hb',strs_len]|refine aI ?_|with_reducible refine cq h16 ?_|simp only[go_sem,hlt',hj0,hw,hwl',hb',strs_len]
      exact⟨by(first|exact wk_same (by simp only[go_sem,ic,e2,Nat.add_zero])|(refine wk_drop ?_ ?_ ?_ ?_ ?_<;>simp only[go_sem,ic,e2,Nat.add_zero])),hnx⟩
   ·have hge': ¬(j:Int)<ls.length:=by omega
    obtain rfl:j=ls.length:=by omega
    have ht:ls.take ls.length=ls:=take_length
    have hsh: ¬longT ls:=by
     rintro(q|⟨w,hw,q⟩)
     ·omega
     ·obtain⟨k,hk,he⟩:=List.getElem_of_mem hw
      have:=hx k hk w (by rw[List.getElem?_eq_getElem hk,he])
      omega
    by_cases h3:vT t
    ·rw[if_pos h3]at h5
     by_cases h4:4<t.h.bs.length+cntB ls
     ·rw[decide_eq_true (show farT t ls from .inr (.inr ⟨h4,h3⟩))]
      have h4':(4:Int)<(t.h.bs.length+cntB ls:Nat):=by omega
      repeat' first|refine sP ?_ ?_<;>intro hb<;>(try rw[hb])<;>(try simp only[bb]at hb)<;>try simp only[go_sem,hge',ht,h4',strs_len]|refine aI ?_|with_reducible refine cq h5 ?_|simp only[go_sem,hge',ht,h4',strs_len]
     ·rw[decide_eq_false (show¬farT t ls from by rintro(q|q|q);exact h1 q;exact hsh q;exact h4 q.1)]
      have h4': ¬(4:Int)<(t.h.bs.length+cntB ls:Nat):=by omega
      repeat' first|refine sP ?_ ?_<;>intro hb<;>(try rw[hb])<;>(try simp only[bb]at hb)<;>try simp only[go_sem,hge',ht,h4',strs_len]|refine aI ?_|with_reducible refine cq h5 ?_|simp only[go_sem,hge',ht,h4',strs_len]
    ·rw[if_neg h3]at h5
     rw[decide_eq_false (show¬farT t ls from by rintro(q|q|q);exact h1 q;exact hsh q;exact h3 q.2)]
     repeat' first|refine sP ?_ ?_<;>intro hb<;>(try rw[hb])<;>(try simp only[bb]at hb)<;>try simp only[go_sem,hge',ht,strs_len]|refine aI ?_|with_reducible refine cq h5 ?_|simp only[go_sem,hge',ht,strs_len]
end Go.Proofs.YtoadkchhimojlaaGreatDoor.OV
namespace Go.Proofs.YtoadkchhimojlaaGreatDoor
open Go Go.Fl
open Classical
def sZ13a_f9(_:Nat):List (Nat×Nat):=[(0,0),(0,0),(0,0),(0,0),(0,0),(0,0),(0,0),(0,1),(0,1),(1,1),(1,1),(0,0)]
def sZ13a_f52(_:Nat):List (Nat×Nat):=[(0,0),(0,0),(0,0),(0,0),(0,0),(0,0),(0,0),(0,0),(0,0),(0,0)]
def sZ13a_f19(_:Nat):List (Nat×Nat):=[(0,0),(0,0),(0,0),(0,0),(0,0)]
attribute [go_sem] sZ13a_f9 sZ13a_f52 sZ13a_f19
theorem sub_mapP{b n:Nat}{v:AV}{l:List (List Int)}:List.map (subL b n v) (List.map encP l)=List.map encP l:=by
 rw[map_map];exact List.map_congr_left fun a _=>by simp[encP,subL,subV]
theorem sub_mapN'{b n:Nat}{v:AV}{l:List Int}:List.map (subL b n v) (List.map encN l)=List.map encN l:=sub_mapN
theorem c29(p:List (List Int))(h1:p.length*24≤140737488351232)(h2: ∀l,l∈p→l.length*8≤140737488351232):PC prog 29 [lP p] (lP p):=by
 refine pB Tryz.func29 fun hlen=>CV.run ?_
 simp only[Tryz.f29]
 simp only[go_sem,length_map,and_true,true_and]at hlen
 repeat' first|refine sP ?_ ?_<;>intro hb<;>(try rw[hb])<;>(try simp only[bb]at hb)<;>(try simp only[within]at hb)<;>try simp only[go_sem]|refine aI ?_|simp only[go_sem]
 refine vc_fw (fun j=>⟨[(4,.int .i64 j),(3,.row 0 (p.take j).length),(2,.nilS),(0,lP p)],[.row 24 1 ((p.take j).map encP) false]⟩) p.length (fun _=>True) (.nilE 3 24 1 (by(simp only[go_sem])) (by omega) (.base (by(first|exact wk_same (by simp only[go_sem,ic,take_zero,map_nil])|(refine wk_drop ?_ ?_ ?_ ?_ ?_<;>simp only[go_sem,ic,take_zero,map_nil]))))) trivial ?_
 intro j hj _
 rcases Nat.lt_or_ge j p.length with hlt|hge
 ·obtain⟨l,hl⟩:=get_of hlt
  have hlt':(j:Int)<p.length:=by omega
  have hll:=h2 l (mem_of_getElem? hl)
  have htl:(p.take j).length+1≤p.length:=by rw[length_take];omega
  have etk:p.take (j+1)=p.take j++[l]:=by rw[take_add_one,hl];rfl
  repeat' first|refine sP ?_ ?_<;>intro hb<;>(try rw[hb])<;>(try simp only[bb]at hb)<;>(try simp only[within]at hb)<;>try simp only[go_sem,hlt',hl,encP,length_map]|refine aI ?_|simp only[go_sem,hlt',hl,encP,length_map]
  refine⟨⟨by omega,by omega,.inl trivial⟩,⟨by omega,by omega⟩,by unfold I64;omega,hlt,.take 1 rfl (by rw[pureN];trivial) (.base ?_)⟩
  (simp only[go_sem,subEnv_go,sub_mapP,sub_mapN',length_map,List.map_append])
  refine wk_drop ?_ ?_ ?_ ?_ ?_<;>(simp only[go_sem,etk,encP,List.map_append,length_append,subEnv_go,sub_mapP,sub_mapN',false_and,if_false,Int.natCast_add,cn,Int.cast_ofNat_Int])
 ·have hge': ¬(j:Int)<p.length:=by omega
  have:j=p.length:=by omega
  subst this
  repeat' first|refine sP ?_ ?_<;>intro hb<;>(try rw[hb])<;>(try simp only[bb]at hb)<;>(try simp only[within]at hb)<;>try simp only[go_sem,hge',take_length,length_map,frzE_self,pureP]|refine aI ?_|simp only[go_sem,hge',take_length,length_map,frzE_self,pureP]
abbrev gpC(a:Hall):List AV:=[.lst false 3 (a.hs.ms.map encM),.lst false 3 (a.hs.bs.map encB),lN a.hs.ts,.int .i64 a.hs.ch,.row 2 a.bo.length,lP a.es]
theorem not_longP{p:List (List Int)}(h: ¬longP p):p.length≤1000∧ ∀l,l∈p→l.length≤1000:=by
 unfold longP at h
 refine⟨by have: ¬40<p.length:=fun q=>h (.inl q);omega,fun l hl=>?_⟩
 have: ¬40<l.length:=fun q=>h (.inr ⟨l,hl,q⟩)
 omega
set_option maxHeartbeats 1000000 in
theorem h9(a:Hall)(q: ¬hugeH a):HCH prog 9 [hH a] [] fun r H'=>r= .agg (gpC a)∧H'=[.box 29 (cH a) false,.box 29 (gpC a) false,.row 3 1 (a.bo.map encN) false]:=by
 have q1: ¬hugeG a.hs:=fun h=>q (.inl h)
 have q2: ¬40<a.bo.length:=fun h=>q (.inr (.inl h))
 have q3: ¬longP a.es:=fun h=>q (.inr (.inr h))
 have h27:=c27 a.hs q1
 have h29:=c29 a.es (by have:=(not_longP q3).1;omega) (fun l hl=>by have:=(not_longP q3).2 l hl;omega)
 refine HCH.body Tryz.func9 (by kernel_rfl) rfl (by simp[Tryz.f9]) ?_
 simp only[Tryz.f9]
 refine CV.run ?_
 repeat' first|refine sP ?_ ?_<;>intro hb<;>(try rw[hb])<;>(try simp only[bb]at hb)<;>(try simp only[within]at hb)<;>try simp only[go_sem,nil_append]|refine aI ?_|with_reducible refine dw sZ13a_f9 ?_|with_reducible refine cq h27 ?_|with_reducible refine cq h29 ?_|simp only[go_sem,nil_append]
 refine⟨⟨by omega,by omega,.inl trivial⟩,?_⟩
 refine dp h29 ⟨rfl,rfl,by(simp only[go_sem,pureP])⟩ ?_
 repeat' first|refine sP ?_ ?_<;>intro hb<;>(try rw[hb])<;>(try simp only[bb]at hb)<;>(try simp only[within]at hb)<;>try simp only[go_sem,nil_append]|refine aI ?_|with_reducible refine dw sZ13a_f9 ?_|simp only[go_sem,nil_append]
theorem exK_small: ¬hugeH exK:=by unfold hugeH hugeG longP exK;simp
def exL:Hall:=⟨exK.hs,[0,0],exK.es⟩
set_option maxHeartbeats 1000000 in
theorem c52:PC prog 52 [hH exK,.int .i64 1,.int .i64 0] (hH exL):=by
 have h:=h9 exK exK_small
 simp only[gpC,exK,encM,encB,encP,lN,encN,map_cons,map_nil,length_cons,length_nil]at h
 simp only[hH,exL,exK,encM,encB,encP,lN,encN,map_cons,map_nil]
 refine pB Tryz.func52 fun hlen=>CV.run ?_
 simp only[Tryz.f52]
 simp only[go_sem,length_map,and_true,true_and]at hlen
 repeat' first|refine sP ?_ ?_<;>intro hb<;>(try rw[hb])<;>(try simp only[bb]at hb)<;>(try simp only[within]at hb)<;>try simp only[go_sem,encN,encM,encB,encP,map_cons,map_nil]|refine aI ?_|with_reducible refine dw sZ13a_f52 ?_|simp only[go_sem,encN,encM,encB,encP,map_cons,map_nil]
 refine vcP_new h rfl ?_
 repeat' first|refine sP ?_ ?_<;>intro hb<;>(try rw[hb])<;>(try simp only[bb]at hb)<;>(try simp only[within]at hb)<;>try simp only[go_sem,encN,encM,encB,encP,map_cons,map_nil,cons_append,nil_append,length_cons,length_nil]|refine aI ?_|with_reducible refine dw sZ13a_f52 ?_|simp only[go_sem,encN,encM,encB,encP,map_cons,map_nil,cons_append,nil_append,length_cons,length_nil]
theorem c52':PC prog 52 [.agg aK,.int .i64 1,.int .i64 0] (hH exL):=PC.lo (args:=[.agg aK,.int .i64 1,.int .i64 0]) c52 rfl
set_option maxHeartbeats 1000000 in
theorem c19:PC prog 19 [] (.tup [.agg aK,hH exL]):=by
 have h52:=c52'
 simp only[hH,exL,exK,encM,encB,encP,lN,encN,map_cons,map_nil]at h52 ⊢
 refine pB Tryz.func19 fun hlen=>CV.run ?_
 simp only[Tryz.f19]
 simp only[go_sem,length_map,and_true,true_and]at hlen
 repeat' first|refine sP ?_ ?_<;>intro hb<;>(try rw[hb])<;>(try simp only[bb]at hb)<;>(try simp only[within]at hb)<;>try simp only[go_sem,encN,encM,encB,encP,map_cons,map_nil]|refine aI ?_|with_reducible refine dw sZ13a_f19 ?_|with_reducible refine cq h52 ?_|simp only[go_sem,encN,encM,encB,encP,map_cons,map_nil]
theorem w12:PC prog 12 [.agg aK] (.tup [.int .i64 6,.int .i64 0]):=by
 have h:=PC.lo (args:=[.agg aK]) (c12 exK exK_ok (by decide)) rfl
 have e:=exK_six
 cases hf:fewL (canL exK) zer12 with
 |none=>rw[hf]at e;cases e
 |some s=>
  rw[hf]at e h
  have e6:s.sum=6:=by simpa using e
  unfold numR at h
  simp only[e6]at h
  exact h
set_option maxHeartbeats 1000000 in
theorem c9(a:Hall)(q1: ¬hugeG a.hs)(b2:a.bo.length*8≤140737488351232)(b3:a.es.length*24≤140737488351232)(b4: ∀l,l∈a.es→l.length*8≤140737488351232):PC prog 9 [hH a] (hH a):=by
 have h81:=c27 a.hs q1
 have h82:=c29 a.es b3 b4
 refine pB Tryz.func9 fun hlen=>CV.run ?_
 simp only[Tryz.f9]
 simp only[go_sem,length_map,and_true,true_and]at hlen
 repeat' first|refine sP ?_ ?_<;>intro hb<;>(try rw[hb])<;>(try simp only[bb]at hb)<;>(try simp only[within]at hb)<;>try simp only[go_sem,nil_append]|refine aI ?_|with_reducible refine dw sZ13a_f9 ?_|with_reducible refine cq h81 ?_|with_reducible refine cq h82 ?_|simp only[go_sem,nil_append]
 refine⟨⟨by omega,by omega,.inl trivial⟩,?_⟩
 refine dp h82 ⟨rfl,rfl,by(simp only[go_sem,pureP])⟩ ?_
 repeat' first|refine sP ?_ ?_<;>intro hb<;>(try rw[hb])<;>(try simp only[bb]at hb)<;>(try simp only[within]at hb)<;>try simp only[go_sem,nil_append,frzE_self,pureN]|refine aI ?_|with_reducible refine dw sZ13a_f9 ?_|simp only[go_sem,nil_append,frzE_self,pureN]
def sZ13b_f27(_:Nat):List (Nat×Nat):=[(0,0),(0,0),(0,0),(0,0),(0,1),(0,1),(0,1),(0,0),(0,2),(0,2),(0,2),(0,0),(0,3),(0,3),(3,3),(0,0)]
def sZ13b_f53:Nat→List (Nat×Nat)
 |3=>[(0,0),(0,0),(0,0),(0,0),(0,0)]
 |4=>[(0,0),(0,1),(0,0),(0,0)]
 |_=>[]
def sZ13b_f21(_:Nat):List (Nat×Nat):=[(0,0),(0,0),(0,0),(0,0),(0,0),(0,0),(0,0),(0,0),(0,0)]
attribute [go_sem] sZ13b_f27 sZ13b_f53 sZ13b_f21
abbrev gqC(h:House):List AV:=[.row 2 h.ms.length,.row 3 h.bs.length,.row 4 h.ts.length,.int .i64 h.ch]
abbrev gqH(h:House):Heap:=[.box 26 (cG h) false,.box 26 (gqC h) false,.row 110 3 (h.ms.map encM) false,.row 83 3 (h.bs.map encB) false,.row 3 1 (h.ts.map encN) false]
theorem h27(h:House)(q: ¬hugeG h):HCH prog 27 [hG h] [] fun r H'=>r= .agg (gqC h)∧H'=gqH h:=by
 have nh:=not_hugeG q
 refine HCH.body Tryz.func27 (by kernel_rfl) rfl (by simp[Tryz.f27]) ?_
 simp only[Tryz.f27]
 refine CV.run ?_
 repeat' first|refine sP ?_ ?_<;>intro hb<;>(try rw[hb])<;>(try simp only[bb]at hb)<;>try simp only[go_sem,nil_append]|refine aI ?_|with_reducible refine dw sZ13b_f27 ?_|simp only[go_sem,nil_append]
 exact⟨⟨by omega,by omega,.inl trivial⟩,⟨by omega,by omega,.inl trivial⟩,by omega,by omega,.inl trivial⟩
theorem c88(a b c:Int):PC prog 88 [.int .i64 a,.int .i64 b,.int .i64 c] (.agg [.int .i64 a,.int .i64 b,.int .i64 c]):=by
 refine pB Tryz.func88 fun hlen=>CV.run ?_
 simp only[Tryz.f88]
 simp only[go_sem,length_map,and_true,true_and]at hlen
 repeat' first|refine sP ?_ ?_<;>intro hb<;>(try rw[hb])<;>(try simp only[bb]at hb)<;>try simp only[go_sem]|refine aI ?_|simp only[go_sem]
theorem c89(a b c:Int):PC prog 89 [.int .i64 a,.int .i64 b,.int .i64 c] (.agg [.int .i64 a,.int .i64 b,.int .i64 c]):=by
 refine pB Tryz.func89 fun hlen=>CV.run ?_
 simp only[Tryz.f89]
 simp only[go_sem,length_map,and_true,true_and]at hlen
 repeat' first|refine sP ?_ ?_<;>intro hb<;>(try rw[hb])<;>(try simp only[bb]at hb)<;>try simp only[go_sem]|refine aI ?_|simp only[go_sem]
def exG:House:=⟨[⟨0,2,1⟩,⟨5,3,0⟩],[⟨0,4,0⟩,⟨1,3,0⟩,⟨1,5,1⟩],[10,31],2⟩
def exGa:AV:= .agg [.lst true 3 [[.int .i64 0,.int .i64 2,.int .i64 1],[.int .i64 5,.int .i64 3,.int .i64 0]],.lst true 3 [[.int .i64 0,.int .i64 4,.int .i64 0],[.int .i64 1,.int .i64 3,.int .i64 0],[.int .i64 1,.int .i64 5,.int .i64 1]],.lst true 1 [[.int .i64 10],[.int .i64 31]],.int .i64 2]
def exH2:House:=⟨[⟨0,2,0⟩,⟨5,3,0⟩],[⟨0,4,0⟩,⟨1,3,0⟩,⟨1,5,1⟩],[10,31],2⟩
theorem exG_small: ¬hugeG exG:=by unfold hugeG exG;simp
theorem exG_ok:okG exG:=⟨by decide,by decide,by decide,by decide,⟨by decide,by decide⟩,by simp[exG,okMa,within],by simp[exG,within],by simp[exG,okBu,within]⟩
set_option maxHeartbeats 1000000 in
theorem c53:PC prog 53 [] (.tup [exGa,hG exH2]):=by
 have hcp:=h27 exG exG_small
 simp only[gqC,gqH,exG,encM,encB,encN,map_cons,map_nil,length_cons,length_nil]at hcp
 simp only[exGa]
 refine pB Tryz.func53 fun hlen=>CV.run ?_
 simp only[Tryz.f53]
 simp only[go_sem,length_map,and_true,true_and]at hlen
 repeat' first|refine sP ?_ ?_<;>intro hb<;>(try rw[hb])<;>(try simp only[bb]at hb)<;>try simp only[go_sem]|refine aI ?_|with_reducible refine dw sZ13b_f53 ?_|with_reducible refine cq (c88 _ _ _) ?_|with_reducible refine cq (c89 _ _ _) ?_|simp only[go_sem]
 refine vcP_new (HCH.lo hcp rfl) rfl ?_
 repeat' first|refine sP ?_ ?_<;>intro hb<;>(try rw[hb])<;>(try simp only[bb]at hb)<;>try simp only[go_sem,map_cons,map_nil,cons_append,nil_append,length_cons,length_nil,exH2,encM,encB,encN]|refine aI ?_|with_reducible refine dw sZ13b_f53 ?_|with_reducible refine cq (c88 _ _ _) ?_|simp only[go_sem,map_cons,map_nil,cons_append,nil_append,length_cons,length_nil,exH2,encM,encB,encN]
end Go.Proofs.YtoadkchhimojlaaGreatDoor
namespace Go.Proofs.YtoadkchhimojlaaGreatDoor.OV
open Go Go.Fl
open Classical
def exE:Town:=⟨exH2,W2.exS⟩
def exRc:List AV:=match W2.exR with
 | .agg cs=>cs
 |_=>[]
def exEa:List AV:=cG exH2++exRc
theorem c20:PC prog 20 [] (.agg exEa):=by
 have h53:=c53
 have h54:=W2.c54
 simp only[exGa,W2.exR,exH2,W2.exT,encM,encB,W2.encD,W2.encW,encN,map_cons,map_nil]at h53 h54
 simp only[exEa,exRc,W2.exR,exH2,encM,encB,encN,map_cons,map_nil,cons_append,nil_append]
 refine pB Tryz.func20 fun hlen=>CV.run ?_
 simp only[Tryz.f20]
 simp only[go_sem,length_map,and_true,true_and]at hlen
 repeat' first|refine sP ?_ ?_<;>intro hb<;>(try rw[hb])<;>(try simp only[bb]at hb)<;>try simp only[go_sem,encM,encB,W2.encD,W2.encW,encN,map_cons,map_nil]|refine aI ?_|with_reducible refine cq h53 ?_|with_reducible refine cq h54 ?_|simp only[go_sem,encM,encB,W2.encD,W2.encW,encN,map_cons,map_nil]
theorem c21(f g:Bool)(a b:List Str)(hl:a.length≤60):PC prog 21 [.lst f 1 (strs a),.lst g 1 (strs b)] (.bool (decide (a=b))):=by
 by_cases h1:a.length=b.length
 ·have h1':(a.length:Int)=b.length:=by omega
  refine pB Tryz.func21 fun hlen=>CV.run ?_
  simp only[Tryz.f21]
  simp only[go_sem,length_map,and_true,true_and]at hlen
  repeat' first|refine sP ?_ ?_<;>intro hb<;>(try rw[hb])<;>(try simp only[bb]at hb)<;>try simp only[go_sem,h1',strs_len]|refine aI ?_|with_reducible refine dw sZ13b_f21 ?_|simp only[go_sem,h1',strs_len]
  refine vc_for (fun j=>⟨[(5,.int .i64 j),(0,.lst f 1 (strs a)),(1,.lst g 1 (strs b))],[]⟩) a.length (fun j=> ∀k,k<j→a[k]? =b[k]?) (by exact w0) (fun k h=>by omega) ?_
  intro j hj hx
  rcases Nat.lt_or_ge j a.length with hlt|hge
  ·obtain⟨x,hxa⟩:=get_of hlt
   obtain⟨y,hyb⟩:=get_of (l:=b) (j:=j) (by omega)
   have hlt':(j:Int)<a.length:=by omega
   have hlt2:(j:Int)<b.length:=by omega
   have hj0:(0≤(j:Int))=True:=eq_true (by omega)
   by_cases q:x=y
   ·subst q
    repeat' first|refine sP ?_ ?_<;>intro hb<;>(try rw[hb])<;>(try simp only[bb]at hb)<;>try simp only[go_sem,hlt',hlt2,hj0,hxa,hyb,strs_len]|refine aI ?_|with_reducible refine dw sZ13b_f21 ?_|simp only[go_sem,hlt',hlt2,hj0,hxa,hyb,strs_len]
    exact⟨by exact w0,fun k hk=>by
     rcases Nat.lt_or_ge k j with h|h
     ·exact hx k h
     ·obtain rfl:k=j:=by omega
      rw[hxa,hyb]⟩
   ·rw[decide_eq_false (show¬a=b from fun e=>by rw[e,hyb]at hxa;exact q (by injection hxa with e2;exact e2.symm))]
    repeat' first|refine sP ?_ ?_<;>intro hb<;>(try rw[hb])<;>(try simp only[bb]at hb)<;>try simp only[go_sem,hlt',hlt2,hj0,hxa,hyb,q,strs_len]|refine aI ?_|with_reducible refine dw sZ13b_f21 ?_|simp only[go_sem,hlt',hlt2,hj0,hxa,hyb,q,strs_len]
  ·have hge': ¬(j:Int)<a.length:=by omega
   obtain rfl:j=a.length:=by omega
   rw[decide_eq_true (show a=b from List.ext_getElem? fun k=>by
    rcases Nat.lt_or_ge k a.length with h|h
    ·exact hx k h
    ·rw[List.getElem?_eq_none h,List.getElem?_eq_none (by omega)])]
   repeat' first|refine sP ?_ ?_<;>intro hb<;>(try rw[hb])<;>(try simp only[bb]at hb)<;>try simp only[go_sem,hge',strs_len]|refine aI ?_|with_reducible refine dw sZ13b_f21 ?_|simp only[go_sem,hge',strs_len]
 ·have h1': ¬(a.length:Int)=b.length:=by omega
  rw[decide_eq_false (show¬a=b from fun e=>h1 (by rw[e]))]
  refine pB Tryz.func21 fun hlen=>CV.run ?_
  simp only[Tryz.f21]
  simp only[go_sem,length_map,and_true,true_and]at hlen
  repeat' first|refine sP ?_ ?_<;>intro hb<;>(try rw[hb])<;>(try simp only[bb]at hb)<;>try simp only[go_sem,h1',strs_len]|refine aI ?_|with_reducible refine dw sZ13b_f21 ?_|simp only[go_sem,h1',strs_len]
end Go.Proofs.YtoadkchhimojlaaGreatDoor.OV
namespace Go.Proofs.YtoadkchhimojlaaGreatDoor
open Go Go.Fl
open Classical
def sZ13c_f38(_:Nat):List (Nat×Nat):=[(0,0),(0,0),(0,0),(0,0),(0,0),(0,0),(0,0),(0,0),(0,0),(0,0),(0,0),(0,0),(0,0),(0,0),(0,0),(0,0),(0,0),(0,0),(0,0),(0,0),(0,0),(0,0),(0,0),(0,0),(0,0)]
def sZ13c_f40(_:Nat):List (Nat×Nat):=[(0,0),(0,0),(0,0),(0,0),(0,0),(0,0),(0,0),(0,0),(0,0)]
attribute [go_sem] sZ13c_f38 sZ13c_f40
def plc(e:Int×Int×Int):Int:=e.1*3+e.2.1
def setAt(L:List (Int×Int×Int))(j:Nat):Prop:= ∃e,L[j]? =some e∧within e.1 0 3∧within e.2.1 0 2∧within e.2.2 1 9∧(0<j→ ∃d,L[j-1]? =some d∧plc d<plc e)
def isSetP(L:List (Int×Int×Int)):Prop:= ∀j,j<L.length→setAt L j
theorem isSetP.snoc{L:List (Int×Int×Int)}{e:Int×Int×Int}(h:isSetP L)(h1:within e.1 0 3)(h2:within e.2.1 0 2)(h3:within e.2.2 1 9)(h4: ∀d,d∈L→plc d<plc e):isSetP (L++[e]):=by
 intro j hj
 rw[length_append]at hj
 simp only[length_cons,length_nil]at hj
 rcases Nat.lt_or_ge j L.length with hlt|hge
 ·obtain⟨x,e1,e2,e3,e4,e5⟩:=h j hlt
  refine⟨x,by rw[List.getElem?_append_left hlt];exact e1,e2,e3,e4,fun h0=>?_⟩
  obtain⟨d,d1,d2⟩:=e5 h0
  exact⟨d,by rw[List.getElem?_append_left (by omega)];exact d1,d2⟩
 ·have:j=L.length:=by omega
  subst this
  refine⟨e,by simp,h1,h2,h3,fun h0=>?_⟩
  obtain⟨d,hd⟩:=get_of (l:=L) (j:=L.length-1) (by omega)
  exact⟨d,by rw[List.getElem?_append_left (by omega)];exact hd,h4 d (mem_of_getElem? hd)⟩
theorem setTo_ok{s:List Int}(hs:okS s 3): ∀k:Nat,k≤12→isSetP (setTo s k)∧ ∀d,d∈setTo s k→plc d<k
 |0,_=>⟨fun j hj=>by simp[setTo]at hj,fun d hd=>by simp[setTo]at hd⟩
 |k+1,hk=>by
  obtain⟨ih1,ih2⟩:=setTo_ok hs k (by omega)
  rw[setTo]
  have hb:gv s k≤3:=by
   obtain⟨x,hx⟩:=get_of (l:=s) (j:=k) (by rw[hs.1];omega)
   rw[gv_nat hx]
   exact(hs.2 x (mem_of_getElem? hx)).2
  have hp:plc (((k / 3:Nat):Int),((k % 3:Nat):Int),gv s k)=k:=by unfold plc;simp only;omega
  split
  ·rename_i h0
   refine⟨ih1.snoc ⟨by simp only;omega,by simp only;omega⟩ ⟨by simp only;omega,by simp only;omega⟩ ⟨by simp only;omega,by simp only;omega⟩ fun d hd=>by rw[hp];exact ih2 d hd,fun d hd=>?_⟩
   rcases List.mem_append.1 hd with hd|hd
   ·have:=ih2 d hd;omega
   ·rw[List.mem_singleton.1 hd,hp];omega
  ·exact⟨ih1,fun d hd=>by have:=ih2 d hd;omega⟩
theorem cmp_neg{d1 d2 e1 e2:Int}(h:d1*3+d2<e1*3+e2)(hd:0≤d2∧d2≤2)(he:0≤e2∧e2≤2): ¬0≤(if cmp1 d1 e1≠0 then cmp1 d1 e1 else cmp1 d2 e2):=by
 by_cases h1:d1<e1
 ·simp[cmp1,h1]
 ·obtain rfl:d1=e1:=by omega
  have h2:d2<e2:=by omega
  simp[cmp1,h2]
set_option maxHeartbeats 4000000 in
theorem c38(L:List (Int×Int×Int))(h:isSetP L)(hl:L.length≤12):PC prog 38 [.lst false 3 (L.map encS)] (.bool true):=by
 refine pB Tryz.func38 fun hlen=>CV.run ?_
 simp only[Tryz.f38]
 simp only[go_sem,length_map,and_true,true_and]at hlen
 repeat' first|refine sP ?_ ?_<;>intro hb<;>(try rw[hb])<;>(try simp only[bb]at hb)<;>(try simp only[within]at hb)<;>try simp only[go_sem,length_map]|refine aI ?_|with_reducible refine dw sZ13c_f38 ?_|simp only[go_sem,length_map]
 refine vc_for (fun j=>⟨[(7,.int .i64 j),(6,.int .i64 L.length),(5,.lst false 3 (L.map encS)),(2,.bool false),(0,.lst false 3 (L.map encS))],[]⟩) L.length (fun _=>True) (by exact w0) trivial ?_
 intro j hj _
 rcases Nat.lt_or_ge j L.length with hlt|hge
 ·obtain⟨e,he,w1,w2,w3,w4⟩:=h j hlt
  have hlt':(j:Int)<L.length:=by omega
  obtain⟨e1,e2,e3⟩:=e
  simp only at w1 w2 w3
  have v1:=c79 e1 0 3
  have v2:=c79 e2 0 2
  have v3:=c79 e3 1 9
  rw[decide_eq_true w1]at v1
  rw[decide_eq_true w2]at v2
  rw[decide_eq_true w3]at v3
  unfold within at w1 w2 w3
  rcases Nat.eq_zero_or_pos j with h0|h0
  ·subst h0
   repeat' first|refine sP ?_ ?_<;>intro hb<;>(try rw[hb])<;>(try simp only[bb]at hb)<;>(try simp only[within]at hb)<;>try simp only[go_sem,hlt',he,encS,length_map]|refine aI ?_|with_reducible refine dw sZ13c_f38 ?_|with_reducible refine cq v1 ?_|with_reducible refine cq v2 ?_|with_reducible refine cq v3 ?_|simp only[go_sem,hlt',he,encS,length_map]
   exact w0
  ·obtain⟨d,hd,hp⟩:=w4 h0
   obtain⟨d',hd'⟩: ∃d',L[j-1]? =some d':=⟨d,hd⟩
   have hj1:((j:Int)-1).toNat=j-1:=by omega
   have hjp:(0≤(j:Int)-1)=True:=eq_true (by omega)
   have hjl:((j:Int)-1<L.length)=True:=eq_true (by omega)
   have h0':(0:Int)<j:=by omega
   obtain⟨x,hx,z1,z2,z3,_⟩:=h (j-1) (by omega)
   rw[hd]at hx;cases hx
   obtain⟨d1,d2,d3⟩:=d
   unfold plc at hp
   unfold within at z1 z2
   simp only at hp z1 z2
   have c1:=c80 d1 e1
   have c2:=c80 d2 e2
   have c3:=c77 (cmp1 d1 e1) (cmp1 d2 e2)
   have hn:=cmp_neg hp z2 w2
   generalize (if cmp1 d1 e1≠0 then cmp1 d1 e1 else cmp1 d2 e2)=V at c3 hn
   generalize cmp1 d1 e1=A at c1 c3
   generalize cmp1 d2 e2=B at c2 c3
   repeat' first|refine sP ?_ ?_<;>intro hb<;>(try rw[hb])<;>(try simp only[bb]at hb)<;>(try simp only[within]at hb)<;>try simp only[go_sem,hlt',he,encS,h0',hj1,hjp,hjl,hd,hn,length_map]|refine aI ?_|with_reducible refine dw sZ13c_f38 ?_|with_reducible refine cq v1 ?_|with_reducible refine cq v2 ?_|with_reducible refine cq v3 ?_|with_reducible refine cq c1 ?_|with_reducible refine cq c2 ?_|with_reducible refine cq c3 ?_|simp only[go_sem,hlt',he,encS,h0',hj1,hjp,hjl,hd,hn,length_map]
   exact w0
 ·have hge': ¬(j:Int)<L.length:=by omega
  obtain rfl:j=L.length:=by omega
  repeat' first|refine sP ?_ ?_<;>intro hb<;>(try rw[hb])<;>(try simp only[bb]at hb)<;>(try simp only[within]at hb)<;>try simp only[go_sem,hge',length_map]|refine aI ?_|with_reducible refine dw sZ13c_f38 ?_|simp only[go_sem,hge',length_map]
def putL:List (Int×Int×Int)→List Int→List Int
 |[],u=>u
 |e::L,u=>putL L (u.set (plc e).toNat e.2.2)
theorem putL_snoc(e:Int×Int×Int): ∀(L:List (Int×Int×Int)) (u:List Int),putL (L++[e]) u=(putL L u).set (plc e).toNat e.2.2
 |[],u=>rfl
 |d::L,u=>putL_snoc e L _
theorem putL_setTo{s:List Int}(hs:okS s 3): ∀k:Nat,k≤12→putL (setTo s k) zer12=s.take k++List.replicate (12-k) 0
 |0,_=>rfl
 |k+1,hk=>by
  have ih:=putL_setTo hs k (by omega)
  obtain⟨x,hx⟩:=get_of (l:=s) (j:=k) (by rw[hs.1];omega)
  have hx0:=hs.2 x (mem_of_getElem? hx)
  have hl:(s.take k).length=k:=by rw[length_take,hs.1];omega
  have hr:List.replicate (12-k) (0:Int)=0::List.replicate (12-(k+1)) 0:=by rw[show 12-k=(12-(k+1))+1 by omega];rfl
  have ht:s.take (k+1)=s.take k++[x]:=by rw[take_add_one,hx];rfl
  rw[setTo,gv_nat hx]
  split
  ·rw[putL_snoc,ih]
   have hp:(plc (((k / 3:Nat):Int),((k % 3:Nat):Int),x)).toNat=k:=by unfold plc;simp only;omega
   rw[hp,List.set_append_right _ _ (by omega),hl,Nat.sub_self,hr,ht]
   simp
  ·rw[ih,hr,ht]
   have:x=0:=by omega
   subst this;simp
theorem putL_all{s:List Int}(hs:okS s 3):putL (setTo s 12) zer12=s:=by
 rw[putL_setTo hs 12 (Nat.le_refl _),List.take_of_length_le (by rw[hs.1];omega)];simp
theorem c40(L:List (Int×Int×Int))(h:isSetP L):PC prog 40 [.lst false 3 (L.map encS)] (.agg ((putL L zer12).map I)):=by
 refine PC.body Tryz.func40 (by kernel_rfl) rfl (by simp[Tryz.f40]) (pureL_mapI _) ?_
 simp only[Tryz.f40]
 intro hlen
 simp only[go_sem,length_map,and_true,true_and]at hlen
 refine CV.run ?_
 repeat' first|refine sP ?_ ?_<;>intro hb<;>(try rw[hb])<;>(try simp only[bb]at hb)<;>(try simp only[within]at hb)<;>try simp only[go_sem,length_map]|refine aI ?_|with_reducible refine dw sZ13c_f40 ?_|simp only[go_sem,length_map]
 refine vc_fx (fun j (u:List Int)=>⟨[(7,.int .i64 j),(6,.int .i64 L.length),(5,.lst false 3 (L.map encS)),(2,.lp 0 0)],[.box 91 (u.map I) false]⟩) L.length (fun j u=>u.length=12∧putL (L.drop j) u=putL L zer12) zer12 (.base (by(first|exact wk_same (by simp only[go_sem,ic,zer12_I])|(refine wk_drop ?_ ?_ ?_ ?_ ?_<;>simp only[go_sem,ic,zer12_I])))) ⟨rfl,rfl⟩ ?_
 intro j u hj ⟨hu,hx⟩
 rcases Nat.lt_or_ge j L.length with hlt|hge
 ·obtain⟨⟨e1,e2,e3⟩,he,w1,w2,w3,_⟩:=h j hlt
  have hlt':(j:Int)<L.length:=by omega
  unfold within at w1 w2
  simp only at w1 w2
  obtain⟨g,rfl⟩: ∃k:Nat,e1=k:=⟨e1.toNat,by omega⟩
  obtain⟨bn,rfl⟩: ∃k:Nat,e2=k:=⟨e2.toNat,by omega⟩
  have hg4:(g:Int)<4:=by omega
  have hb3:(bn:Int)<3:=by omega
  have hoff:g*3+bn<u.length:=by omega
  have hoff2:g*3+bn+1≤12:=by omega
  have hp:(plc ((g:Int),(bn:Int),e3)).toNat=g*3+bn:=by unfold plc;simp only;omega
  rw[drop_cons' he,putL,hp]at hx
  repeat' first|refine sP ?_ ?_<;>intro hb<;>(try rw[hb])<;>(try simp only[bb]at hb)<;>(try simp only[within]at hb)<;>try simp only[go_sem,hlt',he,encS,hb3,hg4,hu,hoff2,put0' hoff,length_map,Nat.mul_one]|refine aI ?_|with_reducible refine dw sZ13c_f40 ?_|simp only[go_sem,hlt',he,encS,hb3,hg4,hu,hoff2,put0' hoff,length_map,Nat.mul_one]
  exact⟨u.set (g*3+bn) e3,hlt,.base (by(first|exact wk_same (by simp only[go_sem,ic,put0' hoff])|(refine wk_drop ?_ ?_ ?_ ?_ ?_<;>simp only[go_sem,ic,put0' hoff]))),by simpa using hu,hx⟩
 ·have hge': ¬(j:Int)<L.length:=by omega
  obtain rfl:j=L.length:=by omega
  rw[List.drop_length,putL]at hx
  rw[←hx]
  repeat' first|refine sP ?_ ?_<;>intro hb<;>(try rw[hb])<;>(try simp only[bb]at hb)<;>(try simp only[within]at hb)<;>try simp only[go_sem,hge',hu,tk12 hu,dr12 hu,allOne_mapI,frzL_mapI,length_map,append_nil]|refine aI ?_|with_reducible refine dw sZ13c_f40 ?_|simp only[go_sem,hge',hu,tk12 hu,dr12 hu,allOne_mapI,frzL_mapI,length_map,append_nil]
end Go.Proofs.YtoadkchhimojlaaGreatDoor
