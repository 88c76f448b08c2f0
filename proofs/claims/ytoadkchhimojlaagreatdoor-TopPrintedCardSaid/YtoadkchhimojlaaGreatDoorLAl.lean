/- Contracts of functions of the given program, without a condition beyond those that each theorem states; they lead to the given statement. -/
import Derived.Test.YtoadkchhimojlaaGreatDoorLAc
import Derived.Test.YtoadkchhimojlaaGreatDoorLAj
import Derived.Test.YtoadkchhimojlaaGreatDoorLAk
set_option linter.unusedSectionVars false
set_option linter.unusedSimpArgs false
set_option linter.unusedVariables false
set_option maxRecDepth 100000
open List(append_assoc length_append length_cons length_map length_nil map_append map_cons map_nil take_zero)
open Go.Proofs.Tryz(prog)
namespace Go.Proofs.YtoadkchhimojlaaGreatDoor.W2
open Go Go.Fl
open Classical
def sZ09c_f141:Nat→List (Nat×Nat)
 |1=>[(0,0),(0,0),(0,0),(0,0),(0,0),(0,0),(0,0),(0,0),(0,0),(0,0),(0,0),(0,0),(0,0)]
 |8=>[(0,0),(0,0),(0,0),(0,0),(0,0),(0,0),(0,0),(0,0)]
 |_=>[]
def sZ09c_f143(_:Nat):List (Nat×Nat):=[(0,0),(0,0),(0,0),(0,0),(0,0),(0,0),(0,0)]
attribute [go_sem] sZ09c_f141 sZ09c_f143
set_option maxHeartbeats 1000000 in
theorem c141(s:Shop)(i:Int):PC prog 141 [hS s,.int .i64 i] (.tup [.agg [.int .i64 (rLeft s i).1.1,.int .i64 (rLeft s i).1.2],.int .i64 (rLeft s i).2]):=by
 by_cases hk:kn s (within i 0 (s.ms.length-1))=0
 ·rw[show rLeft s i=_ from ans_yes hk]
  obtain⟨hv,hi,hne⟩:=kn0.1 hk
  unfold within at hi
  obtain⟨k,rfl⟩: ∃k:Nat,i=(k:Int):=⟨i.toNat,by omega⟩
  have h5:=hv.2.1
  have hkl:k<s.ms.length:=by omega
  have hk5:(k:Int)<5:=by omega
  have hg:=su_get hv hkl
  have hel:=encL_len (s:=s) (W:=aW s)
  have h6:=aW_len hv
  have hhb: ∀j,0≤hiW s ((aW s).take j) k∧hiW s ((aW s).take j) k≤12:=fun j=>(lo_bounds hv (W:=(aW s).take j) (fun w hw=>aW_mem (List.mem_of_mem_take hw)) k hkl).2.2
  refine pB Tryz.func141 fun hlen=>CV.run ?_
  simp only[Tryz.f141]
  simp only[go_sem,length_map,and_true,true_and]at hlen
  repeat' first|refine sP ?_ ?_<;>intro hb<;>(try rw[hb])<;>(try simp only[bb]at hb)<;>(try simp only[within]at hb)<;>try simp only[go_sem,hk,hk5,hg,getI,drop_head,Option.map_some,I,Nat.mul_one,hel]|refine aI ?_|with_reducible refine dw sZ09c_f141 ?_|with_reducible refine cq (c102 _ _ _) ?_|with_reducible refine cq (o180 hk) ?_|simp only[go_sem,hk,hk5,hg,getI,drop_head,Option.map_some,I,Nat.mul_one,hel]
  refine vc_for (fun j=>⟨[(38,.int .i64 j),(37,.int .i64 (aW s).length),(36,.lst false 5 (encL s (aW s))),(8,.lp 2 0),(4,.lp 1 0),(5,.int .i64 0),(1,.int .i64 k)],[.box 32 (cS s) false,.box 206 [.int .i64 0,.int .i64 0] false,.box 206 [.int .i64 (lo s k),.int .i64 (hiW s ((aW s).take j) k)] false]⟩) (aW s).length (fun j=>True) (by(first|exact wk_same (by simp only[go_sem,ic,hiW,high,take_zero,map_nil])|(refine wk_drop ?_ ?_ ?_ ?_ ?_<;>simp only[go_sem,ic,hiW,high,take_zero,map_nil]))) trivial ?_
  intro j hj _
  have hbj:=hhb j
  rcases Nat.lt_or_ge j (aW s).length with hlt|hge
  ·obtain⟨w,hw⟩:=get_of hlt
   have hlt':(j:Int)<(aW s).length:=by omega
   have hgl:=encL_get (s:=s) hw
   have hlg:=lv_get hv (w:=w) hkl
   have hwm:=aW_mem (List.mem_of_getElem? hw)
   have hlb:=(hv.left hwm.1 k hkl).2.2 hwm.2
   have e:=hiW_app (s:=s) (W:=(aW s).take j) (w:=w) (i:=k)
   rw[←take_succ hw]at e
   have e2:hiW s ((aW s).take (j+1)) k=max (hiW s ((aW s).take j) k) (lf s w k):=by
    rw[e]
    split
    ·rename_i h;rw[h];simp[hiW,high];omega
    ·rfl
   repeat' first|refine sP ?_ ?_<;>intro hb<;>(try rw[hb])<;>(try simp only[bb]at hb)<;>(try simp only[within]at hb)<;>try simp only[go_sem,hlt',hel,hgl,hlg,lv_take,lv_len,length_map,hk5,getI,drop_head,Option.map_some,I,Nat.mul_one]|refine aI ?_|with_reducible refine dw sZ09c_f141 ?_|simp only[go_sem,hlt',hel,hgl,hlg,lv_take,lv_len,length_map,hk5,getI,drop_head,Option.map_some,I,Nat.mul_one]
   all_goals first
    |(first|exact wk_same (by simp only[go_sem,ic,e2])|(refine wk_drop ?_ ?_ ?_ ?_ ?_<;>simp only[go_sem,ic,e2]))
  ·have hge': ¬(j:Int)<(aW s).length:=by omega
   have:(aW s).take j=aW s:=List.take_of_length_le hge
   repeat' first|refine sP ?_ ?_<;>intro hb<;>(try rw[hb])<;>(try simp only[bb]at hb)<;>(try simp only[within]at hb)<;>try simp only[go_sem,hge',this,hi_def]|refine aI ?_|with_reducible refine dw sZ09c_f141 ?_|simp only[go_sem,hge',this,hi_def]
 ·rw[show rLeft s i=_ from ans_no hk]
  refine pB Tryz.func141 fun hlen=>CV.run ?_
  simp only[Tryz.f141]
  simp only[go_sem,length_map,and_true,true_and]at hlen
  repeat' first|refine sP ?_ ?_<;>intro hb<;>(try rw[hb])<;>(try simp only[bb]at hb)<;>(try simp only[within]at hb)<;>try simp only[go_sem,hk]|refine aI ?_|with_reducible refine dw sZ09c_f141 ?_|with_reducible refine cq (c102 _ _ _) ?_|with_reducible refine cq (n180 hk) ?_|simp only[go_sem,hk]
theorem c139(s:Shop):PC prog 139 [hS s] (.tup [lN (rWorlds s).1,.int .i64 (rWorlds s).2]):=by
 by_cases hk:check s=0
 ·rw[show rWorlds s=_ from ans_yes hk]
  have hv:=check_0.1 hk
  have h6:=hv.2.2.1
  refine pB Tryz.func139 fun hlen=>CV.run ?_
  simp only[Tryz.f139]
  simp only[go_sem,length_map,and_true,true_and]at hlen
  repeat' first|refine sP ?_ ?_<;>intro hb<;>(try rw[hb])<;>(try simp only[bb]at hb)<;>(try simp only[within]at hb)<;>try simp only[go_sem,hk]|refine aI ?_|with_reducible refine cq (c56 _) ?_|with_reducible refine cq (c182 _) ?_|simp only[go_sem,hk]
  rw[vc_range_eq]
  refine CV.wn (st':=⟨[(13,.fn 199 [.pp (cS s)]),(5,.lp 1 0),(2,.nilS),(3,.int .i64 0)],[.box 32 (cS s) false,.box 24 [.row 2 (selB (gd s) 0).length] false,.row 3 1 ((selB (gd s) 0).map encN) false]⟩) (.nilB 1 0 3 1 rfl rfl (by omega) (.base (by(first|exact wk_same (by simp only[go_sem,ic,selB_zero])|(refine wk_drop ?_ ?_ ?_ ?_ ?_<;>simp only[go_sem,ic,selB_zero]))))) ?_
  refine CV.rangeP rfl (by(simp only[go_sem])) [.box 32 (cS s) false,.box 24 [.row 2 (wl s).length] false,.row 3 1 ((wl s).map encN) false] rfl (by(simp only[go_sem])) (by(simp only[go_sem])) (fun l=>?_) ?_
  ·have h199:=fun ps assign body env0=>c199 s hv (fun n=>[.box 32 (cS s) false,.box 24 [.row 2 (selB (gd s) n).length] false,.row 3 1 ((selB (gd s) n).map encN) false]) l 21 ps assign body env0
   refine h199 _ _ _ _ (fun n w hw ha=>?_) (fun n w hw ha=>?_)
   ·have hn:=(List.getElem?_eq_some_iff.1 hw).1
    have hsl:=selB_len (gd s) n
    have e:=selB_yes (p:=gd s) (n:=n) (by rw[gd,gw_of hw,ha])
    refine HCY.body2 (H:=[.box 32 (cS s) false,.box 24 [.row 2 (selB (gd s) n).length] false,.row 3 1 ((selB (gd s) n).map encN) false]) (H':=[.box 32 (cS s) false,.box 24 [.row 2 (selB (gd s) (n+1)).length] false,.row 3 1 ((selB (gd s) (n+1)).map encN) false]) (by omega) (by omega) rfl (by(simp only[go_sem])) (by(simp only[go_sem])) rfl rfl ?_
    repeat' first|refine sP ?_ ?_<;>intro hb<;>(try rw[hb])<;>(try simp only[bb]at hb)<;>(try simp only[within]at hb)<;>try simp only[go_sem]|refine aI ?_|simp only[go_sem]
    exact .base (by(first|exact wk_same (by simp only[go_sem,ic,e,encN,map_append,length_append])|(refine wk_drop ?_ ?_ ?_ ?_ ?_<;>simp only[go_sem,ic,e,encN,map_append,length_append])))
   ·have e:=selB_no (p:=gd s) (n:=n) (by rw[gd,gw_of hw];exact ha)
    simp only[e]
  ·repeat' first|refine sP ?_ ?_<;>intro hb<;>(try rw[hb])<;>(try simp only[bb]at hb)<;>(try simp only[within]at hb)<;>try simp only[go_sem]|refine aI ?_|simp only[go_sem]
 ·rw[show rWorlds s=_ from ans_no hk]
  refine pB Tryz.func139 fun hlen=>CV.run ?_
  simp only[Tryz.f139]
  simp only[go_sem,length_map,and_true,true_and]at hlen
  repeat' first|refine sP ?_ ?_<;>intro hb<;>(try rw[hb])<;>(try simp only[bb]at hb)<;>(try simp only[within]at hb)<;>try simp only[go_sem,hk]|refine aI ?_|with_reducible refine cq (c56 _) ?_|simp only[go_sem,hk]
set_option maxHeartbeats 4000000 in
theorem c143(s:Shop):PC prog 143 [hS s] (.tup [.int .i64 (rTest s).1,.int .i64 (rTest s).2]):=by
 by_cases hk:kn s True=0
 ·rw[rTest_yes hk]
  obtain⟨hv,_,hne⟩:=kn0.1 hk
  have h6:=aW_len hv
  have h5:=hv.2.1
  have hel:=encL_len (s:=s) (W:=aW s)
  refine pB Tryz.func143 fun hlen=>CV.run ?_
  simp only[Tryz.f143]
  simp only[go_sem,length_map,and_true,true_and]at hlen
  repeat' first|refine sP ?_ ?_<;>intro hb<;>(try rw[hb])<;>(try simp only[bb]at hb)<;>(try simp only[within]at hb)<;>try simp only[go_sem,hk,hel]|refine aI ?_|with_reducible refine dw sZ09c_f143 ?_|with_reducible refine cq (o180t hk) ?_|simp only[go_sem,hk,hel]
  refine vc_for (fun j=>⟨[(29,.int .i64 j),(28,.int .i64 s.ms.length),(6,.int .i64 (bestI (teT s j).1)),(7,.int .i64 (teT s j).2),(4,.pp (cX s)),(2,.int .i64 0),(3,.int .i64 0)],[.box 32 (cS s) false]⟩) s.ms.length (fun j=>True) (by(first|exact wk_same (by simp only[go_sem,ic,teT,bestI_0])|(refine wk_drop ?_ ?_ ?_ ?_ ?_<;>simp only[go_sem,ic,teT,bestI_0]))) trivial ?_
  intro j hj _
  have hbt:=teT_bounds s j
  rcases Nat.lt_or_ge j s.ms.length with hlt|hge
  ·have hlt':(j:Int)<s.ms.length:=by omega
   have hb:=tired_bounds s (j:Int)
   have hj5:(j:Int)<5:=by omega
   repeat' first|refine sP ?_ ?_<;>intro hb<;>(try rw[hb])<;>(try simp only[bb]at hb)<;>(try simp only[within]at hb)<;>try simp only[go_sem,hlt',hel]|refine aI ?_|with_reducible refine dw sZ09c_f143 ?_|simp only[go_sem,hlt',hel]
   refine vc_for (fun i=>⟨[(37,.int .i64 i),(36,.int .i64 (aW s).length),(35,.lst false 5 (encL s (aW s))),(9,.int .i64 (cntP (zero0 s j) ((aW s).take i))),(8,.int .i64 j),(29,.int .i64 j),(28,.int .i64 s.ms.length),(6,.int .i64 (bestI (teT s j).1)),(7,.int .i64 (teT s j).2),(4,.pp (cX s)),(2,.int .i64 0),(3,.int .i64 0)],[.box 32 (cS s) false]⟩) (aW s).length (fun i=>True) (by(first|exact wk_same (by simp only[go_sem,ic,cntP,take_zero,List.filter_nil,length_nil])|(refine wk_drop ?_ ?_ ?_ ?_ ?_<;>simp only[go_sem,ic,cntP,take_zero,List.filter_nil,length_nil]))) trivial ?_
   intro i hi _
   have hci:=cntP_bounds (zero0 s j) ((aW s).take i)
   rw[List.length_take]at hci
   rcases Nat.lt_or_ge i (aW s).length with hlt2|hge2
   ·obtain⟨w,hw⟩:=get_of hlt2
    have hlt2':(i:Int)<(aW s).length:=by omega
    have hgl:=encL_get (s:=s) hw
    have hlg:=lv_get hv (w:=w) hlt
    have e:=cntP_app (p:=zero0 s j) (W:=(aW s).take i) (w:=w)
    rw[←take_succ hw]at e
    by_cases h0:lf s w j=0
    ·rw[if_pos (by simp[zero0,h0])]at e
     repeat' first|refine sP ?_ ?_<;>intro hb<;>(try rw[hb])<;>(try simp only[bb]at hb)<;>(try simp only[within]at hb)<;>try simp only[go_sem,hlt2',hel,hgl,hlg,h0,lv_take,lv_len,length_map,hj5,getI,drop_head,Option.map_some,I,Nat.mul_one]|refine aI ?_|with_reducible refine dw sZ09c_f143 ?_|simp only[go_sem,hlt2',hel,hgl,hlg,h0,lv_take,lv_len,length_map,hj5,getI,drop_head,Option.map_some,I,Nat.mul_one]
     all_goals first
      |(first|exact wk_same (by simp only[go_sem,ic,e])|(refine wk_drop ?_ ?_ ?_ ?_ ?_<;>simp only[go_sem,ic,e]))
    ·rw[if_neg (by simp[zero0,h0]),Int.add_zero]at e
     repeat' first|refine sP ?_ ?_<;>intro hb<;>(try rw[hb])<;>(try simp only[bb]at hb)<;>(try simp only[within]at hb)<;>try simp only[go_sem,hlt2',hel,hgl,hlg,h0,lv_take,lv_len,length_map,hj5,getI,drop_head,Option.map_some,I,Nat.mul_one]|refine aI ?_|with_reducible refine dw sZ09c_f143 ?_|simp only[go_sem,hlt2',hel,hgl,hlg,h0,lv_take,lv_len,length_map,hj5,getI,drop_head,Option.map_some,I,Nat.mul_one]
     all_goals first
      |(first|exact wk_same (by simp only[go_sem,ic,e])|(refine wk_drop ?_ ?_ ?_ ?_ ?_<;>simp only[go_sem,ic,e]))
   ·have hge2': ¬(i:Int)<(aW s).length:=by omega
    have et:(aW s).take i=aW s:=List.take_of_length_le hge2
    have et2:cntP (zero0 s j) (aW s)=tired s j:=rfl
    by_cases hw:worse s j<(teT s j).2
    ·have e:teT s (j+1)=((j:Int),worse s j):=by simp[teT,hw]
     have eb:bestI (j:Int)=j:=if_neg (by omega)
     have hw':max (tired s j) ((aW s).length-tired s j)<(teT s j).2:=hw
     repeat' first|refine sP ?_ ?_<;>intro hb<;>(try rw[hb])<;>(try simp only[bb]at hb)<;>(try simp only[within]at hb)<;>try simp only[go_sem,hge2',et,et2,hel,hw']|refine aI ?_|with_reducible refine dw sZ09c_f143 ?_|simp only[go_sem,hge2',et,et2,hel,hw']
     all_goals first
      |(first|exact wk_same (by simp only[go_sem,ic,e,eb,worse])|(refine wk_drop ?_ ?_ ?_ ?_ ?_<;>simp only[go_sem,ic,e,eb,worse]))
      |omega
    ·have e:teT s (j+1)=teT s j:=by simp[teT,hw]
     have hw': ¬max (tired s j) ((aW s).length-tired s j)<(teT s j).2:=hw
     repeat' first|refine sP ?_ ?_<;>intro hb<;>(try rw[hb])<;>(try simp only[bb]at hb)<;>(try simp only[within]at hb)<;>try simp only[go_sem,hge2',et,et2,hel,hw']|refine aI ?_|with_reducible refine dw sZ09c_f143 ?_|simp only[go_sem,hge2',et,et2,hel,hw']
     all_goals first
      |(first|exact wk_same (by simp only[go_sem,ic,e])|(refine wk_drop ?_ ?_ ?_ ?_ ?_<;>simp only[go_sem,ic,e]))
      |omega
  ·have hge': ¬(j:Int)<s.ms.length:=by omega
   have:j=s.ms.length:=by omega
   subst this
   by_cases hn:(teT s s.ms.length).1<0
   ·rw[if_pos hn]
    have e2:(teT s s.ms.length).2=(aW s).length:=by omega
    repeat' first|refine sP ?_ ?_<;>intro hb<;>(try rw[hb])<;>(try simp only[bb]at hb)<;>(try simp only[within]at hb)<;>try simp only[go_sem,hge',hel,e2]|refine aI ?_|with_reducible refine dw sZ09c_f143 ?_|simp only[go_sem,hge',hel,e2]
   ·rw[if_neg hn]
    have e2: ¬(teT s s.ms.length).2=(aW s).length:=by omega
    repeat' first|refine sP ?_ ?_<;>intro hb<;>(try rw[hb])<;>(try simp only[bb]at hb)<;>(try simp only[within]at hb)<;>try simp only[go_sem,hge',hel,e2,bestI,hn]|refine aI ?_|with_reducible refine dw sZ09c_f143 ?_|simp only[go_sem,hge',hel,e2,bestI,hn]
 ·rw[rTest_no hk]
  refine pB Tryz.func143 fun hlen=>CV.run ?_
  simp only[Tryz.f143]
  simp only[go_sem,length_map,and_true,true_and]at hlen
  repeat' first|refine sP ?_ ?_<;>intro hb<;>(try rw[hb])<;>(try simp only[bb]at hb)<;>(try simp only[within]at hb)<;>try simp only[go_sem,hk]|refine aI ?_|with_reducible refine dw sZ09c_f143 ?_|with_reducible refine cq (n180t hk) ?_|simp only[go_sem,hk]
end Go.Proofs.YtoadkchhimojlaaGreatDoor.W2
namespace Go.Proofs.YtoadkchhimojlaaGreatDoor.OV
open Go Go.Fl
open Classical
def sZ09d_f132(_:Nat):List (Nat×Nat):=[(0,0),(0,0),(0,0),(0,0),(0,0),(0,0),(0,0),(0,0),(0,0),(0,0),(0,0),(0,0),(0,0)]
def sZ09d_f140(_:Nat):List (Nat×Nat):=[(0,0),(0,0),(0,0),(0,0),(0,0),(0,0),(0,0),(0,0),(0,1),(0,0),(0,0),(1,1)]
attribute [go_sem] sZ09d_f132 sZ09d_f140
def noneT:Str:=[110,111,110,101]
def wrongT:Str:=[119,114,111,110,103]
def nothT:Str:=[110,111,116,104,105,110,103]
def tellL(l:List Int):Str:=if l=[]then nothT else Lib.join (l.map Lib.itoa) [32]
theorem c127(n e:Int):PC prog 127 [.int .i64 n,.int .i64 e] (.tup [.ifc 196 [.int .i64 n],.int .i64 e]):=by
 refine pB Tryz.func127 fun hlen=>CV.run ?_
 simp only[Tryz.f127]
 simp only[go_sem,length_map,and_true,true_and]at hlen
 repeat' first|refine sP ?_ ?_<;>intro hb<;>(try rw[hb])<;>(try simp only[bb]at hb)<;>try simp only[go_sem]|refine aI ?_|simp only[go_sem]
theorem c130(l:List Int)(e:Int):PC prog 130 [lN l,.int .i64 e] (.tup [.ifc 209 [lN l],.int .i64 e]):=by
 refine pB Tryz.func130 fun hlen=>CV.run ?_
 simp only[Tryz.f130]
 simp only[go_sem,length_map,and_true,true_and]at hlen
 repeat' first|refine sP ?_ ?_<;>intro hb<;>(try rw[hb])<;>(try simp only[bb]at hb)<;>try simp only[go_sem]|refine aI ?_|simp only[go_sem]
theorem c249(n:Int)(hn:I64 n):PC prog 249 [.int .i64 n] (.str (Lib.itoa n)):=by
 refine pB Tryz.func249 fun hlen=>CV.run ?_
 simp only[Tryz.f249]
 simp only[go_sem,length_map,and_true,true_and]at hlen
 repeat' first|refine sP ?_ ?_<;>intro hb<;>(try rw[hb])<;>(try simp only[bb]at hb)<;>try simp only[go_sem]|refine aI ?_|with_reducible refine cq (c109 n hn) ?_|simp only[go_sem]
def smallL(l:List Int):Prop:=l.length≤60∧ ∀n,n∈l→0≤n∧n<100
theorem itoa_s{n:Int}(h0:0≤n)(h1:n<100):(Lib.itoa n).length≤2:=by
 obtain⟨k,rfl⟩: ∃k:Nat,n=k:=⟨n.toNat,by omega⟩
 rcases Nat.lt_or_ge k 10 with h|h
 ·rw[itoa_1 h];simp
 ·rw[itoa_2 h (by omega)];simp
theorem c250(l:List Int)(hs:smallL l):PC prog 250 [lN l] (.str (tellL l)):=by
 by_cases h0:l=[]
 ·subst h0
  refine pB Tryz.func250 fun hlen=>CV.run ?_
  simp only[Tryz.f250]
  simp only[go_sem,length_map,and_true,true_and]at hlen
  repeat' first|refine sP ?_ ?_<;>intro hb<;>(try rw[hb])<;>(try simp only[bb]at hb)<;>try simp only[go_sem,tellL,nothT,map_nil,length_nil]|refine aI ?_|simp only[go_sem,tellL,nothT,map_nil,length_nil]
 ·obtain⟨h1,h2⟩:=hs
  have hl0: ¬((l.length:Int)=0):=by have:=List.length_pos_iff.2 h0;omega
  have hsw:shortW (l.map Lib.itoa):=fun w hw=>by
   obtain⟨n,hn,rfl⟩:=List.mem_map.1 hw
   have:=itoa_s (h2 n hn).1 (h2 n hn).2
   omega
  have hj:=join_le _ hsw
  rw[length_map]at hj
  have h108:=c108 false (l.map Lib.itoa) [32] (by omega) (by rw[length_map];omega)
  have e0:tellL l=Lib.join (l.map Lib.itoa) [32]:=if_neg h0
  refine pB Tryz.func250 fun hlen=>CV.run ?_
  simp only[Tryz.f250]
  simp only[go_sem,length_map,and_true,true_and]at hlen
  repeat' first|refine sP ?_ ?_<;>intro hb<;>(try rw[hb])<;>(try simp only[bb]at hb)<;>try simp only[go_sem,hl0,e0]|refine aI ?_|simp only[go_sem,hl0,e0]
  refine vc_fw (fun j=>⟨[(11,.int .i64 j),(10,.int .i64 l.length),(9,lN l),(3,.row 0 j)],[.row 9 1 (strs ((l.map Lib.itoa).take j)) false]⟩) l.length (fun _=>True) (.nilE 3 9 1 (by(simp only[go_sem])) (by omega) (.base (by(first|exact wk_same (by simp only[go_sem,ic,take_zero,strs,map_nil])|(refine wk_drop ?_ ?_ ?_ ?_ ?_<;>simp only[go_sem,ic,take_zero,strs,map_nil]))))) trivial ?_
  intro j hj2 _
  rcases Nat.lt_or_ge j l.length with hlt|hge
  ·obtain⟨n,hn⟩:=get_of hlt
   have hlt':(j:Int)<l.length:=by omega
   obtain⟨q0,q1⟩:=h2 n (List.mem_of_getElem? hn)
   have h109:=c109 n (by unfold I64;omega)
   have hwt:(l.map Lib.itoa)[j]? =some (Lib.itoa n):=by rw[List.getElem?_map,hn];rfl
   have e:(l.map Lib.itoa).take (j+1)=(l.map Lib.itoa).take j++[Lib.itoa n]:=by rw[List.take_add_one,hwt];rfl
   have hl2:((l.map Lib.itoa).take j).length=j:=by rw[List.length_take,length_map];omega
   have e5:strs ((l.map Lib.itoa).take (j+1))=strs ((l.map Lib.itoa).take j)++[[.str (Lib.itoa n)]]:=by rw[e];simp[strs]
   have hl3:=strs_len ((l.map Lib.itoa).take j)
   rw[hl2]at hl3
   repeat' first|refine sP ?_ ?_<;>intro hb<;>(try rw[hb])<;>(try simp only[bb]at hb)<;>try simp only[go_sem,hlt',hn,encN,hl2,hl3,length_map]|refine aI ?_|with_reducible refine cq h109 ?_|simp only[go_sem,hlt',hn,encN,hl2,hl3,length_map]
   exact .base (by(first|exact wk_same (by simp only[go_sem,ic,e5])|(refine wk_drop ?_ ?_ ?_ ?_ ?_<;>simp only[go_sem,ic,e5])))
  ·have hge': ¬(j:Int)<l.length:=by omega
   obtain rfl:j=l.length:=by omega
   have ht:(l.map Lib.itoa).take l.length=l.map Lib.itoa:=List.take_of_length_le (by rw[length_map];omega)
   repeat' first|refine sP ?_ ?_<;>intro hb<;>(try rw[hb])<;>(try simp only[bb]at hb)<;>try simp only[go_sem,hge',ht]|refine aI ?_|with_reducible refine cq h108 ?_|simp only[go_sem,hge',ht]
def errT(e:Int)(s:Str):Str:=if e=0 then s else if e=3 then noneT else wrongT
theorem tell_n0{g:Nat}{t:Town}{v:Int}{e:Int}(h:PC prog g [hT t] (.tup [.ifc 196 [.int .i64 v],.int .i64 e]))(hv:I64 v):PC prog 62 [.fn g [],hT t] (.str (errT e (Lib.itoa v))):=by
 have hm:=c249 v hv
 unfold errT
 by_cases h0:e=0
 ·rw[if_pos h0]
  refine pB Tryz.func62 fun hlen=>CV.run ?_
  simp only[Tryz.f62]
  simp only[go_sem,length_map,and_true,true_and]at hlen
  repeat' first|refine sP ?_ ?_<;>intro hb<;>(try rw[hb])<;>(try simp only[bb]at hb)<;>try simp only[go_sem,h0]|refine aI ?_|with_reducible refine cq h ?_|with_reducible refine cq hm ?_|simp only[go_sem,h0]
 ·rw[if_neg h0]
  by_cases h3:e=3
  ·rw[if_pos h3]
   refine pB Tryz.func62 fun hlen=>CV.run ?_
   simp only[Tryz.f62]
   simp only[go_sem,length_map,and_true,true_and]at hlen
   repeat' first|refine sP ?_ ?_<;>intro hb<;>(try rw[hb])<;>(try simp only[bb]at hb)<;>try simp only[go_sem,h0,h3,noneT]|refine aI ?_|with_reducible refine cq h ?_|simp only[go_sem,h0,h3,noneT]
  ·rw[if_neg h3]
   refine pB Tryz.func62 fun hlen=>CV.run ?_
   simp only[Tryz.f62]
   simp only[go_sem,length_map,and_true,true_and]at hlen
   repeat' first|refine sP ?_ ?_<;>intro hb<;>(try rw[hb])<;>(try simp only[bb]at hb)<;>try simp only[go_sem,h0,h3,wrongT]|refine aI ?_|with_reducible refine cq h ?_|simp only[go_sem,h0,h3,wrongT]
theorem tell_n1{g:Nat}{n:Int}{t:Town}{v:Int}{e:Int}(h:PC prog g [hT t,.pp [lN [n]]] (.tup [.ifc 196 [.int .i64 v],.int .i64 e]))(hv:I64 v):PC prog 62 [.fn g [.pp [lN [n]]],hT t] (.str (errT e (Lib.itoa v))):=by
 have hm:=c249 v hv
 unfold errT
 by_cases h0:e=0
 ·rw[if_pos h0]
  refine pB Tryz.func62 fun hlen=>CV.run ?_
  simp only[Tryz.f62]
  simp only[go_sem,length_map,and_true,true_and]at hlen
  repeat' first|refine sP ?_ ?_<;>intro hb<;>(try rw[hb])<;>(try simp only[bb]at hb)<;>try simp only[go_sem,h0]|refine aI ?_|with_reducible refine cq h ?_|with_reducible refine cq hm ?_|simp only[go_sem,h0]
 ·rw[if_neg h0]
  by_cases h3:e=3
  ·rw[if_pos h3]
   refine pB Tryz.func62 fun hlen=>CV.run ?_
   simp only[Tryz.f62]
   simp only[go_sem,length_map,and_true,true_and]at hlen
   repeat' first|refine sP ?_ ?_<;>intro hb<;>(try rw[hb])<;>(try simp only[bb]at hb)<;>try simp only[go_sem,h0,h3,noneT]|refine aI ?_|with_reducible refine cq h ?_|simp only[go_sem,h0,h3,noneT]
  ·rw[if_neg h3]
   refine pB Tryz.func62 fun hlen=>CV.run ?_
   simp only[Tryz.f62]
   simp only[go_sem,length_map,and_true,true_and]at hlen
   repeat' first|refine sP ?_ ?_<;>intro hb<;>(try rw[hb])<;>(try simp only[bb]at hb)<;>try simp only[go_sem,h0,h3,wrongT]|refine aI ?_|with_reducible refine cq h ?_|simp only[go_sem,h0,h3,wrongT]
theorem tell_l0{g:Nat}{t:Town}{l:List Int}{e:Int}(h:PC prog g [hT t] (.tup [.ifc 209 [lN l],.int .i64 e]))(hs:smallL l):PC prog 62 [.fn g [],hT t] (.str (errT e (tellL l))):=by
 have hm:=c250 l hs
 unfold errT
 by_cases h0:e=0
 ·rw[if_pos h0]
  refine pB Tryz.func62 fun hlen=>CV.run ?_
  simp only[Tryz.f62]
  simp only[go_sem,length_map,and_true,true_and]at hlen
  repeat' first|refine sP ?_ ?_<;>intro hb<;>(try rw[hb])<;>(try simp only[bb]at hb)<;>try simp only[go_sem,h0]|refine aI ?_|with_reducible refine cq h ?_|with_reducible refine cq hm ?_|simp only[go_sem,h0]
 ·rw[if_neg h0]
  by_cases h3:e=3
  ·rw[if_pos h3]
   refine pB Tryz.func62 fun hlen=>CV.run ?_
   simp only[Tryz.f62]
   simp only[go_sem,length_map,and_true,true_and]at hlen
   repeat' first|refine sP ?_ ?_<;>intro hb<;>(try rw[hb])<;>(try simp only[bb]at hb)<;>try simp only[go_sem,h0,h3,noneT]|refine aI ?_|with_reducible refine cq h ?_|simp only[go_sem,h0,h3,noneT]
  ·rw[if_neg h3]
   refine pB Tryz.func62 fun hlen=>CV.run ?_
   simp only[Tryz.f62]
   simp only[go_sem,length_map,and_true,true_and]at hlen
   repeat' first|refine sP ?_ ?_<;>intro hb<;>(try rw[hb])<;>(try simp only[bb]at hb)<;>try simp only[go_sem,h0,h3,wrongT]|refine aI ?_|with_reducible refine cq h ?_|simp only[go_sem,h0,h3,wrongT]
theorem tell_l1{g:Nat}{n:Int}{t:Town}{l:List Int}{e:Int}(h:PC prog g [hT t,.pp [lN [n]]] (.tup [.ifc 209 [lN l],.int .i64 e]))(hs:smallL l):PC prog 62 [.fn g [.pp [lN [n]]],hT t] (.str (errT e (tellL l))):=by
 have hm:=c250 l hs
 unfold errT
 by_cases h0:e=0
 ·rw[if_pos h0]
  refine pB Tryz.func62 fun hlen=>CV.run ?_
  simp only[Tryz.f62]
  simp only[go_sem,length_map,and_true,true_and]at hlen
  repeat' first|refine sP ?_ ?_<;>intro hb<;>(try rw[hb])<;>(try simp only[bb]at hb)<;>try simp only[go_sem,h0]|refine aI ?_|with_reducible refine cq h ?_|with_reducible refine cq hm ?_|simp only[go_sem,h0]
 ·rw[if_neg h0]
  by_cases h3:e=3
  ·rw[if_pos h3]
   refine pB Tryz.func62 fun hlen=>CV.run ?_
   simp only[Tryz.f62]
   simp only[go_sem,length_map,and_true,true_and]at hlen
   repeat' first|refine sP ?_ ?_<;>intro hb<;>(try rw[hb])<;>(try simp only[bb]at hb)<;>try simp only[go_sem,h0,h3,noneT]|refine aI ?_|with_reducible refine cq h ?_|simp only[go_sem,h0,h3,noneT]
  ·rw[if_neg h3]
   refine pB Tryz.func62 fun hlen=>CV.run ?_
   simp only[Tryz.f62]
   simp only[go_sem,length_map,and_true,true_and]at hlen
   repeat' first|refine sP ?_ ?_<;>intro hb<;>(try rw[hb])<;>(try simp only[bb]at hb)<;>try simp only[go_sem,h0,h3,wrongT]|refine aI ?_|with_reducible refine cq h ?_|simp only[go_sem,h0,h3,wrongT]
theorem c124(t:Town)(hk:okG t.h):PC prog 124 [hT t] (.tup [.ifc 196 [.int .i64 (if T4.sureG t.h 0=true then 1 else 0)],.int .i64 0]):=by
 have h:=T4.c125 t.h
 rw[T4.surG,if_pos hk]at h
 cases hs:T4.sureG t.h 0<;>rw[hs]at h
 ·skip
  refine pB Tryz.func124 fun hlen=>CV.run ?_
  simp only[Tryz.f124]
  simp only[go_sem,length_map,and_true,true_and]at hlen
  repeat' first|refine sP ?_ ?_<;>intro hb<;>(try rw[hb])<;>(try simp only[bb]at hb)<;>try simp only[go_sem]|refine aI ?_|with_reducible refine cq h ?_|simp only[go_sem]
 ·skip
  refine pB Tryz.func124 fun hlen=>CV.run ?_
  simp only[Tryz.f124]
  simp only[go_sem,length_map,and_true,true_and]at hlen
  repeat' first|refine sP ?_ ?_<;>intro hb<;>(try rw[hb])<;>(try simp only[bb]at hb)<;>try simp only[go_sem]|refine aI ?_|with_reducible refine cq h ?_|simp only[go_sem]
theorem c126(t:Town)(hk:okG t.h):PC prog 126 [hT t] (.tup [.ifc 196 [.int .i64 (T4.bestG t.h (-1)).2],.int .i64 0]):=by
 have h:=T4.c128 t.h
 rw[T4.fewG,if_pos hk]at h
 refine pB Tryz.func126 fun hlen=>CV.run ?_
 simp only[Tryz.f126]
 simp only[go_sem,length_map,and_true,true_and]at hlen
 repeat' first|refine sP ?_ ?_<;>intro hb<;>(try rw[hb])<;>(try simp only[bb]at hb)<;>try simp only[go_sem]|refine aI ?_|with_reducible refine cq h ?_|with_reducible refine cq (c127 _ _) ?_|simp only[go_sem]
theorem c129(t:Town)(hk:okG t.h):PC prog 129 [hT t] (.tup [.ifc 209 [lN (T4.tolF t.h (2^t.h.ts.length)).1],.int .i64 0]):=by
 have h:=T4.c131 t.h
 rw[T4.tolG,if_pos hk]at h
 refine pB Tryz.func129 fun hlen=>CV.run ?_
 simp only[Tryz.f129]
 simp only[go_sem,length_map,and_true,true_and]at hlen
 repeat' first|refine sP ?_ ?_<;>intro hb<;>(try rw[hb])<;>(try simp only[bb]at hb)<;>try simp only[go_sem]|refine aI ?_|with_reducible refine cq h ?_|with_reducible refine cq (c130 _ _) ?_|simp only[go_sem]
theorem c132(t:Town)(n v e:Int)(h:PC prog 133 [hG t.h,.int .i64 n] (.tup [.int .i64 v,.int .i64 e])):PC prog 132 [hT t,.pp [lN [n]]] (.tup [.ifc 196 [.int .i64 v],.int .i64 e]):=by
 refine pB Tryz.func132 fun hlen=>CV.run ?_
 simp only[Tryz.f132]
 simp only[go_sem,length_map,and_true,true_and]at hlen
 repeat' first|refine sP ?_ ?_<;>intro hb<;>(try rw[hb])<;>(try simp only[bb]at hb)<;>try simp only[go_sem,encN,map_cons,map_nil]|refine aI ?_|with_reducible refine dw sZ09d_f132 ?_|with_reducible refine cq h ?_|with_reducible refine cq (c127 _ _) ?_|simp only[go_sem,encN,map_cons,map_nil]
theorem c134(t:Town)(v e:Int)(h:PC prog 135 [hG t.h] (.tup [.int .i64 v,.int .i64 e])):PC prog 134 [hT t] (.tup [.ifc 196 [.int .i64 v],.int .i64 e]):=by
 refine pB Tryz.func134 fun hlen=>CV.run ?_
 simp only[Tryz.f134]
 simp only[go_sem,length_map,and_true,true_and]at hlen
 repeat' first|refine sP ?_ ?_<;>intro hb<;>(try rw[hb])<;>(try simp only[bb]at hb)<;>try simp only[go_sem]|refine aI ?_|with_reducible refine cq h ?_|with_reducible refine cq (c127 _ _) ?_|simp only[go_sem]
theorem c136(t:Town):PC prog 136 [hT t] (.tup [.ifc 196 [.int .i64 (W2.rNew t.s).1],.int .i64 (W2.rNew t.s).2]):=by
 refine pB Tryz.func136 fun hlen=>CV.run ?_
 simp only[Tryz.f136]
 simp only[go_sem,length_map,and_true,true_and]at hlen
 repeat' first|refine sP ?_ ?_<;>intro hb<;>(try rw[hb])<;>(try simp only[bb]at hb)<;>try simp only[go_sem]|refine aI ?_|with_reducible refine cq (W2.c137 t.s) ?_|with_reducible refine cq (c127 _ _) ?_|simp only[go_sem]
theorem c138(t:Town):PC prog 138 [hT t] (.tup [.ifc 209 [lN (W2.rWorlds t.s).1],.int .i64 (W2.rWorlds t.s).2]):=by
 refine pB Tryz.func138 fun hlen=>CV.run ?_
 simp only[Tryz.f138]
 simp only[go_sem,length_map,and_true,true_and]at hlen
 repeat' first|refine sP ?_ ?_<;>intro hb<;>(try rw[hb])<;>(try simp only[bb]at hb)<;>try simp only[go_sem]|refine aI ?_|with_reducible refine cq (W2.c139 t.s) ?_|with_reducible refine cq (c130 _ _) ?_|simp only[go_sem]
theorem c140(t:Town)(n:Int):PC prog 140 [hT t,.pp [lN [n]]] (.tup [.ifc 209 [lN [(W2.rLeft t.s n).1.1,(W2.rLeft t.s n).1.2]],.int .i64 (W2.rLeft t.s n).2]):=by
 refine pB Tryz.func140 fun hlen=>CV.run ?_
 simp only[Tryz.f140]
 simp only[go_sem,length_map,and_true,true_and]at hlen
 repeat' first|refine sP ?_ ?_<;>intro hb<;>(try rw[hb])<;>(try simp only[bb]at hb)<;>try simp only[go_sem,encN,map_cons,map_nil]|refine aI ?_|with_reducible refine dw sZ09d_f140 ?_|with_reducible refine cq (W2.c141 t.s n) ?_|simp only[go_sem,encN,map_cons,map_nil]
theorem c142(t:Town):PC prog 142 [hT t] (.tup [.ifc 196 [.int .i64 (W2.rTest t.s).1],.int .i64 (W2.rTest t.s).2]):=by
 refine pB Tryz.func142 fun hlen=>CV.run ?_
 simp only[Tryz.f142]
 simp only[go_sem,length_map,and_true,true_and]at hlen
 repeat' first|refine sP ?_ ?_<;>intro hb<;>(try rw[hb])<;>(try simp only[bb]at hb)<;>try simp only[go_sem]|refine aI ?_|with_reducible refine cq (W2.c143 t.s) ?_|with_reducible refine cq (c127 _ _) ?_|simp only[go_sem]
structure Rec where
 line:Int
 reads:Option (List Str)
noncomputable def rdV:Option (List Str)→AV
 |none=> .nilP
 |some ws=> .pp (cE ws)
noncomputable def encR(r:Rec):List AV:=[.int .i64 r.line,rdV r.reads]
theorem rdV_pure(o:Option (List Str)):(rdV o).pure=true:=by cases o<;>rfl
theorem pureR(rs:List Rec):pureE (rs.map encR)=True:=pureE_map fun r=>by simp[encR,AV.pureL,AV.pure,rdV_pure]
attribute [go_sem] pureR rdV_pure
def okR(r:Rec):Prop:= ∀ws,r.reads=some ws→opN ws≠0∧ws.length≤61
noncomputable def goT(t:Town)(r:Rec):Town×Bool:=match r.reads with
 |none=>(t,false)
 |some ws=>onF (dW ws t) t
noncomputable def goesL(line:Int):Town→List Rec→List (Rec×Bool)
 |_,[]=>[]
 |t,r::rs=>if line≤r.line then []else(r,(goT t r).2)::goesL line (goT t r).1 rs
theorem onF_ok{o:Option Town}{t:Town}(h:vT t):vT (onF o t).1:=by
 unfold onF
 cases o with
 |none=>exact h
 |some t'=>simp only;split<;>assumption
theorem goT_ok{t:Town}{r:Rec}(h:vT t):vT (goT t r).1:=by
 unfold goT;split
 ·exact h
 ·exact onF_ok h
theorem onF_no{o:Option Town}{t:Town}(h:(onF o t).2=false):(onF o t).1=t:=by
 revert h
 unfold onF
 cases o with
 |none=>intro _;rfl
 |some t'=>simp only;split<;>intro h<;>first|rfl|cases h
theorem goT_no{t:Town}{r:Rec}(h:(goT t r).2=false):(goT t r).1=t:=by
 revert h
 unfold goT;split
 ·intro _;rfl
 ·exact onF_no
abbrev HDK(t:Town)(rs:List Rec):List AV:=cT t++[.row 5 rs.length]
structure Desk(t:Town)(rs:List Rec)(b:Nat)(H:Heap):Prop where
 len:H.length=b
 six:6≤b
 bel: ∀k,belowH (b+k) H
 d:H[3]? =some (.box 66 (HDK t rs) false)
 r:H[5]? =some (.row 72 2 (rs.map encR) false)
theorem apl{H own:Heap}{i:Nat}{x:Blk}(h:H[i]? =some x):(H++own)[i]? =some x:=by
 rw[List.getElem?_append_left (List.getElem?_eq_some_iff.1 h).1];exact h
theorem belowH_app{n:Nat}: ∀{A B:Heap},belowH n A→belowH n B→belowH n (A++B)
 |[],_,_,h=>h
 |x::A,B,ha,hb=>⟨ha.1,belowH_app ha.2 hb⟩
theorem c24(H:Heap)(b:Nat)(line:Int)(hb:H.length=b):HCH prog 24 [.lp 3 0,.int .i64 line] H fun r H'=>r= .fn 66 [.lp b 0,.lp (b+1) 0]∧H'=H++[.box 120 [.lp 3 0] false,.box 3 [.int .i64 line] false]:=by
 refine HCH.bodyN Tryz.func24 (by kernel_rfl) rfl (by simp[Tryz.f24]) ?_
 simp only[Tryz.f24]
 refine CV.run ?_
 repeat' first|refine sP ?_ ?_<;>intro hb<;>(try rw[hb])<;>(try simp only[bb]at hb)<;>try simp only[go_sem,hb,length_append,append_assoc]|refine aI ?_|simp only[go_sem,hb,length_append,append_assoc]
 exact⟨⟨[(4,.fn 66 [.lp b 0,.lp (b+1) 0])],H++[.box 120 [.lp 3 0] false,.box 3 [.int .i64 line] false]⟩,.base (by exact w0),rfl,rfl⟩
set_option maxHeartbeats 1000000 in
theorem c66{σ:Type}(t:Town)(hv:vT t)(rs:List Rec)(hn:rs.length≤60)(hok: ∀r,r∈rs→okR r)(line:Int)(b l p:Nat)(HC:σ→Heap)(st:σ→Rec×Bool→σ)(al:Nat→σ→Prop)
  (hd: ∀s,Desk t rs b (HC s)) (hp1: ∀s,(HC s)[p]? =some (.box 120 [.lp 3 0] false)) (hp2: ∀s,(HC s)[p+1]? =some (.box 3 [.int .i64 line] false)) (hgo: ∀i s x,al i s→al (i+1) (st s x))
  (hy: ∀i s r hd own,i<rs.length→al i s→okR r→(hd=true→ ∃ws,r.reads=some ws)→HCY prog l [.agg (encR r),.bool hd] (HC s++own) fun r' H2=>r'= .bool true∧H2=HC (st s (r,hd))++own) (s:σ) (hal:al 0 s):
  HCH prog 66 [.yld l,.lp p 0,.lp (p+1) 0] (HC s) fun r H'=> ∃rest,H'=HC (List.foldl st s (goesL line t rs))++rest:=by
 have hlen: ∀s,(HC s).length=b:=fun s=>(hd s).len
 have hbel: ∀s k,belowH (b+k) (HC s):=fun s=>(hd s).bel
 have hD:=fun s=>(hd s).d
 have hR:=fun s=>(hd s).r
 have hD': ∀s own,(HC s++own)[3]? =some (.box 66 (HDK t rs) false):=fun s own=>apl (hD s)
 have hR': ∀s own,(HC s++own)[5]? =some (.row 72 2 (rs.map encR) false):=fun s own=>apl (hR s)
 have hp1': ∀s own,(HC s++own)[p]? =some (.box 120 [.lp 3 0] false):=fun s own=>apl (hp1 s)
 have hp2': ∀s own,(HC s++own)[p+1]? =some (.box 3 [.int .i64 line] false):=fun s own=>apl (hp2 s)
 have ga1: ∀(s:σ) (own:Heap) (i:Nat),(HC s++own)[b+i]? =own[i]? :=fun s own i=>T4.ga (hlen s) i
 have ga2: ∀(s:σ) (own:Heap),(HC s++own)[b]? =own[0]? :=fun s own=>T4.ga0 (hlen s)
 have sa1: ∀(s:σ) (own:Heap) (i:Nat) (v:Blk),(HC s++own).set (b+i) v=HC s++own.set i v:=fun s own i v=>T4.sa (hlen s) i v
 have sa2: ∀(s:σ) (own:Heap) (v:Blk),(HC s++own).set b v=HC s++own.set 0 v:=fun s own v=>T4.sa (i:=0) (hlen s) v
 have hpb:p+1<b:=by rw[←hlen s];exact(List.getElem?_eq_some_iff.1 (hp2 s)).1
 have hb1:(b≤b+1)=True:=eq_true (by omega)
 have hb2:decide (b<b+1)=true:=decide_eq_true (by omega)
 have hb5:decide (5<b+1)=true:=decide_eq_true (by have:=(hd s).six;omega)
 have hb3:decide (p+1<b+1)=true:=decide_eq_true (by omega)
 refine HCH.body Tryz.func66 (by kernel_rfl) rfl (by simp[Tryz.f66]) ?_
 simp only[Tryz.f66]
 refine CV.run ?_
 repeat' first|refine sP ?_ ?_<;>intro hb<;>(try rw[hb])<;>(try simp only[bb]at hb)<;>try simp only[go_sem,hlen,hD,hD',hR,hR',hp1,hp1',hp2,hp2',ga1,ga2,sa1,sa2,length_append,length_map,append_assoc]|refine aI ?_|simp only[go_sem,hlen,hD,hD',hR,hR',hp1,hp1',hp2,hp2',ga1,ga2,sa1,sa2,length_append,length_map,append_assoc]
 refine vc_fx (fun i (x:σ×Town)=>⟨[(17,.int .i64 i),(16,.int .i64 rs.length),(15,.row 5 rs.length),(0,.yld l),(2,.lp (p+1) 0),(4,.lp b 0)],HC x.1++[.box 35 (cT x.2) false]⟩) rs.length (fun i x=>List.foldl st s (goesL line t rs)=List.foldl st x.1 (goesL line x.2 (rs.drop i))∧vT x.2∧al i x.1) (s,t) (.base (by exact w0)) ⟨rfl,hv,hal⟩ ?_
 rintro i ⟨s1,t1⟩ hi ⟨x1,x2,x3⟩
 simp only at x1 x2 x3
 rcases Nat.lt_or_ge i rs.length with hlt|hge
 ·obtain⟨r,hr⟩:=get_of hlt
  have hlt':(i:Int)<rs.length:=by omega
  have hrk:=hok r (List.mem_of_getElem? hr)
  rw[drop_cons' hr,goesL]at x1
  obtain⟨rl,rr⟩:=r
  by_cases hle:line≤rl
  ·rw[if_pos hle]at x1
   rw[x1]
   cases rr<;>repeat' first|refine sP ?_ ?_<;>intro hb<;>(try rw[hb])<;>(try simp only[bb]at hb)<;>try simp only[go_sem,hlt',hr,hle,encR,rdV,hlen,hD,hD',hR,hR',hp1,hp1',hp2,hp2',ga1,ga2,sa1,sa2,length_append,length_map,append_assoc]|refine aI ?_|simp only[go_sem,hlt',hr,hle,encR,rdV,hlen,hD,hD',hR,hR',hp1,hp1',hp2,hp2',ga1,ga2,sa1,sa2,length_append,length_map,append_assoc]
   all_goals exact⟨_,rfl⟩
  ·rw[if_neg hle]at x1
   cases rr with
   |none=>
    repeat' first|refine sP ?_ ?_<;>intro hb<;>(try rw[hb])<;>(try simp only[bb]at hb)<;>try simp only[go_sem,hlt',hr,hle,encR,rdV,hlen,hD,hD',hR,hR',hp1,hp1',hp2,hp2',ga1,ga2,sa1,sa2,length_append,length_map,append_assoc]|refine aI ?_|simp only[go_sem,hlt',hr,hle,encR,rdV,hlen,hD,hD',hR,hR',hp1,hp1',hp2,hp2',ga1,ga2,sa1,sa2,length_append,length_map,append_assoc]
    refine T4.vcY_is (hy i s1 ⟨rl,none⟩ false _ hlt x3 hrk (fun e=>by cases e)) ?_
    repeat' first|refine sP ?_ ?_<;>intro hb<;>(try rw[hb])<;>(try simp only[bb]at hb)<;>try simp only[go_sem,hlt',hlen,ga1,ga2,sa1,sa2]|refine aI ?_|simp only[go_sem,hlt',hlen,ga1,ga2,sa1,sa2]
    exact⟨(st s1 (⟨rl,none⟩,false),t1),hlt,.base (by(first|exact wk_same (by simp only[go_sem,ic,T4.pfx_two,T4.belowH_appE,hlen,hbel,hb1,hb2,hb3,hb5,length_append,length_cons,length_nil])|(refine wk_drop ?_ ?_ ?_ ?_ ?_<;>simp only[go_sem,ic,T4.pfx_two,T4.belowH_appE,hlen,hbel,hb1,hb2,hb3,hb5,length_append,length_cons,length_nil]))),x1,x2,hgo _ _ _ x3⟩
   |some ws=>
    obtain⟨w1,w2⟩:=hrk ws rfl
    have h59:=c59 w1 w2 t1 x2
    repeat' first|refine sP ?_ ?_<;>intro hb<;>(try rw[hb])<;>(try simp only[bb]at hb)<;>try simp only[go_sem,hlt',hr,hle,encR,rdV,hlen,hD,hD',hR,hR',hp1,hp1',hp2,hp2',ga1,ga2,sa1,sa2,length_append,length_map,append_assoc]|refine aI ?_|with_reducible refine cq h59 ?_|simp only[go_sem,hlt',hr,hle,encR,rdV,hlen,hD,hD',hR,hR',hp1,hp1',hp2,hp2',ga1,ga2,sa1,sa2,length_append,length_map,append_assoc]
    refine T4.vcY_is (hy i s1 ⟨rl,some ws⟩ (onF (dW ws t1) t1).2 _ hlt x3 hrk (fun e=>⟨ws,rfl⟩)) ?_
    repeat' first|refine sP ?_ ?_<;>intro hb<;>(try rw[hb])<;>(try simp only[bb]at hb)<;>try simp only[go_sem,hlt',hlen,ga1,ga2,sa1,sa2]|refine aI ?_|simp only[go_sem,hlt',hlen,ga1,ga2,sa1,sa2]
    exact⟨(st s1 (⟨rl,some ws⟩,(onF (dW ws t1) t1).2),(onF (dW ws t1) t1).1),hlt,.base (by(first|exact wk_same (by simp only[go_sem,ic,T4.pfx_two,T4.belowH_appE,hlen,hbel,hb1,hb2,hb3,hb5,length_append,length_cons,length_nil])|(refine wk_drop ?_ ?_ ?_ ?_ ?_<;>simp only[go_sem,ic,T4.pfx_two,T4.belowH_appE,hlen,hbel,hb1,hb2,hb3,hb5,length_append,length_cons,length_nil]))),x1,onF_ok x2,hgo _ _ _ x3⟩
 ·have hge': ¬(i:Int)<rs.length:=by omega
  have:i=rs.length:=by omega
  subst this
  repeat' first|refine sP ?_ ?_<;>intro hb<;>(try rw[hb])<;>(try simp only[bb]at hb)<;>try simp only[go_sem,hge']|refine aI ?_|simp only[go_sem,hge']
  rw[x1,List.drop_length]
  exact⟨_,rfl⟩
theorem c66L{σ:Type}(t:Town)(hv:vT t)(rs:List Rec)(hn:rs.length≤60)(hok: ∀r,r∈rs→okR r)(line:Int)(b l p nt0:Nat)(ps:Array Tmp)(assign body:Code)(env0:Env)(HS:σ→Heap)(st:σ→Rec×Bool→σ)(al:Nat→σ→Prop)
  (hd: ∀s,Desk t rs b (HS s)) (hbe: ∀k,belowE (b+k) env0) (hp1: ∀s,(HS s)[p]? =some (.box 120 [.lp 3 0] false)) (hp2: ∀s,(HS s)[p+1]? =some (.box 3 [.int .i64 line] false)) (hgo: ∀i s x,al i s→al (i+1) (st s x))
  (hy: ∀i s r hd own,i<rs.length→al i s→okR r→(hd=true→ ∃ws,r.reads=some ws)→HCY prog l [.agg (encR r),.bool hd] (HS s++ .loop l nt0 ps assign body env0::own) fun r' H2=>r'= .bool true∧H2=HS (st s (r,hd))++ .loop l nt0 ps assign body env0::own) (s:σ) (hal:al 0 s):
  HCH prog 66 [.yld l,.lp p 0,.lp (p+1) 0] (HS s++[.loop l nt0 ps assign body env0]) fun r H'=> ∃rest,H'=HS (List.foldl st s (goesL line t rs))++ .loop l nt0 ps assign body env0::rest:=by
 refine(c66 t hv rs hn hok line (b+1) l p (fun s=>HS s++[.loop l nt0 ps assign body env0]) st al (fun s=>⟨by simp[(hd s).len],by have:=(hd s).six;omega,fun k=>?_,apl (hd s).d,apl (hd s).r⟩) (fun s=>apl (hp1 s)) (fun s=>apl (hp2 s)) hgo (fun i s r hd own hi ha hr hh=>?_) s hal).mono ?_
 ·rw[Nat.add_assoc]
  exact belowH_app ((hd s).bel _) ⟨hbe _,trivial⟩
 ·have:=hy i s r hd own hi ha hr hh
  simp only[append_assoc,List.cons_append,List.nil_append]
  exact this
 ·rintro r H' ⟨rest,rfl⟩
  exact⟨rest,by simp⟩
noncomputable def townF(line:Int):Town→List Rec→Town
 |t,[]=>t
 |t,r::rs=>if line≤r.line then t else townF line (goT t r).1 rs
noncomputable def holdF(line:Int):Town→List Rec→List Int
 |_,[]=>[]
 |t,r::rs=>if line≤r.line then []else(if(goT t r).2=true then 1 else 0)::holdF line (goT t r).1 rs
theorem townF_ok(line:Int): ∀{rs:List Rec} {t:Town},vT t→vT (townF line t rs)
 |[],_,h=>h
 |r::rs,t,h=>by
  rw[townF];split
  ·exact h
  ·exact townF_ok line (goT_ok h)
noncomputable def stT(t:Town)(x:Rec×Bool):Town:=if x.2=true then(goT t x.1).1 else t
noncomputable def stH(l:List Int)(x:Rec×Bool):List Int:=l++[if x.2=true then 1 else 0]
theorem fold_town(line:Int): ∀(rs:List Rec) (t:Town),List.foldl stT t (goesL line t rs)=townF line t rs
 |[],_=>rfl
 |r::rs,t=>by
  rw[goesL,townF]
  split
  ·rfl
  ·rw[List.foldl_cons,show stT t (r,(goT t r).2)=(goT t r).1 from ?_,fold_town line rs]
   unfold stT
   split
   ·rfl
   ·rename_i h;exact(goT_no (by simpa using h)).symm
theorem fold_hold(line:Int): ∀(rs:List Rec) (t:Town) (l:List Int),List.foldl stH l (goesL line t rs)=l++holdF line t rs
 |[],_,l=>by simp[goesL,holdF]
 |r::rs,t,l=>by
  rw[goesL,holdF]
  split
  ·simp
  ·rw[List.foldl_cons,fold_hold line rs,stH,append_assoc];rfl
theorem pfx_appE{A B:Heap}: ∀{X:Heap},pfx (X++A) (X++B)=pfx A B
 |[]=>rfl
 |x::X=>by simp[pfx,pfx_appE (X:=X)]
theorem dadd{b i j:Nat}:decide (b+i<b+j)=decide (i<j):=by simp
theorem dadd0{b j:Nat}:decide (b<b+j)=decide (0<j):=by simp
theorem pfx_self{X B:Heap}:pfx X (X++B)=True:=T4.pfx_app
theorem Desk.app{t:Town}{rs:List Rec}{b:Nat}{H own:Heap}(h:Desk t rs b H){c:Nat}(hc:own.length=c)(ho: ∀k,belowH (b+c+k) own):Desk t rs (b+c) (H++own):=
 ⟨by rw[length_append,h.len,hc],by have:=h.six;omega,fun k=>belowH_app (by rw[Nat.add_assoc];exact h.bel _) (ho k),apl h.d,apl h.r⟩
set_option maxHeartbeats 1000000 in
theorem c26(t:Town)(hv:vT t)(rs:List Rec)(hn:rs.length≤60)(hok: ∀r,r∈rs→okR r)(line:Int)(H:Heap)(b:Nat)(hd:Desk t rs b H):
  HCH prog 26 [.lp 3 0,.int .i64 line] H fun r H'=>r=hT (townF line t rs)∧H'=H++[.box 35 (cT (townF line t rs)) false]:=by
 obtain⟨hlen,h6,hbel,hD,hR⟩:=id hd
 have hD': ∀own,(H++own)[3]? =some (.box 66 (HDK t rs) false):=fun own=>apl hD
 have ga1: ∀(own:Heap) (i:Nat),(H++own)[b+i]? =own[i]? :=fun own i=>T4.ga hlen i
 have ga2: ∀(own:Heap),(H++own)[b]? =own[0]? :=fun own=>T4.ga0 hlen
 have sa1: ∀(own:Heap) (i:Nat) (v:Blk),(H++own).set (b+i) v=H++own.set i v:=fun own i v=>T4.sa hlen i v
 have sa2: ∀(own:Heap) (v:Blk),(H++own).set b v=H++own.set 0 v:=fun own v=>T4.sa (i:=0) hlen v
 have hq3: ∀k,decide (3<b+k)=true:=fun k=>decide_eq_true (by omega)
 have hq5: ∀k,decide (5<b+k)=true:=fun k=>decide_eq_true (by omega)
 refine HCH.bodyN Tryz.func26 (by kernel_rfl) rfl (by simp[Tryz.f26]) ?_
 simp only[Tryz.f26]
 refine CV.run ?_
 repeat' first|refine sP ?_ ?_<;>intro hb<;>(try rw[hb])<;>(try simp only[bb]at hb)<;>try simp only[go_sem,hlen,hD,hD',ga1,ga2,sa1,sa2,length_append,append_assoc]|refine aI ?_|simp only[go_sem,hlen,hD,hD',ga1,ga2,sa1,sa2,length_append,append_assoc]
 refine vcP_here (c24 _ (b+2) line (by simp[hlen])) ?_
 rintro r H' ⟨rfl,rfl⟩
 repeat' first|refine sP ?_ ?_<;>intro hb<;>(try rw[hb])<;>(try simp only[bb]at hb)<;>try simp only[go_sem,hlen,hD,hD',ga1,ga2,sa1,sa2,length_append,append_assoc]|refine aI ?_|simp only[go_sem,hlen,hD,hD',ga1,ga2,sa1,sa2,length_append,append_assoc]
 rw[vc_range_eq]
 refine CV.rangeP rfl (by(try(simp only[go_sem,belowH,hlen,length_append]))<;>(try simp)<;>(try omega)) (H++[.box 35 z35 false,.box 35 (cT (List.foldl stT t (goesL line t rs))) false,.box 120 [.lp 3 0] false,.box 3 [.int .i64 line] false]) (by simp) (by rw[length_append,hlen];exact belowH_app (hbel _) (by(try(simp only[go_sem,belowH,hlen,length_append]))<;>(try simp)<;>(try omega))) (by(try(simp only[go_sem,belowH,hlen,length_append]))<;>(try simp)<;>(try omega)) (fun l=>?_) ?_
 ·have hd2: ∀s,Desk t rs (b+4) (H++[.box 35 z35 false,.box 35 (cT s) false,.box 120 [.lp 3 0] false,.box 3 [.int .i64 line] false]):=fun s=>hd.app rfl (fun k=>by(try(simp only[go_sem,belowH]))<;>(try simp)<;>(try omega))
  refine c66L t hv rs hn hok line (b+4) l (b+2) _ _ _ _ _ (fun s=>H++[.box 35 z35 false,.box 35 (cT s) false,.box 120 [.lp 3 0] false,.box 3 [.int .i64 line] false]) stT (fun _=>vT) hd2 ?_ (fun s=>by rw[ga1];rfl) (fun s=>by rw[show b+2+1=b+3 from rfl,ga1];rfl) (fun i s x h=>by unfold stT;split;exact goT_ok h;exact h) (fun i s r hd own hi ha hr hh=>?_) t hv
  ·intro k
   (try(simp only[go_sem]))<;>(try simp)<;>(try omega)
  have hw1:((AV.agg (encR r)).pure)=true:=by simp[AV.pure,AV.pureL,encR,rdV_pure]
  refine HCY.body2 (H:=H++[.box 35 z35 false,.box 35 (cT s) false,.box 120 [.lp 3 0] false,.box 3 [.int .i64 line] false]) (H':=H++[.box 35 z35 false,.box 35 (cT (stT s (r,hd))) false,.box 120 [.lp 3 0] false,.box 3 [.int .i64 line] false]) ?_ ?_ (by simp) (by rw[length_append,hlen];exact belowH_app (hbel _) (by(try(simp only[go_sem,belowH]))<;>(try simp)<;>(try omega))) ?_ ?_ ?_ ?_
  ·decide
  ·decide
  ·(try(simp only[go_sem,hlen,length_append]))<;>(try simp)<;>(try omega)
  ·exact hw1
  ·rfl
  obtain⟨rl,rr⟩:=r
  cases hd with
  |false=>
   cases rr<;>repeat' first|refine sP ?_ ?_<;>intro hb<;>(try rw[hb])<;>(try simp only[bb]at hb)<;>try simp only[go_sem,encR,rdV,hlen,hD,hD',ga1,ga2,sa1,sa2,length_append,append_assoc]|refine aI ?_|simp only[go_sem,encR,rdV,hlen,hD,hD',ga1,ga2,sa1,sa2,length_append,append_assoc]
   all_goals exact .base (by(first|exact wk_same (by simp only[go_sem,ic,stT,Bool.false_eq_true,if_false,pfx_appE,T4.belowH_appE,dadd,dadd0,hlen,hbel,hq3,hq5,Nat.le_add_right,length_append,length_cons,length_nil])|(refine wk_drop ?_ ?_ ?_ ?_ ?_<;>simp only[go_sem,ic,stT,Bool.false_eq_true,if_false,pfx_appE,T4.belowH_appE,dadd,dadd0,hlen,hbel,hq3,hq5,Nat.le_add_right,length_append,length_cons,length_nil])))
  |true=>
   obtain⟨ws,rfl⟩: ∃ws,rr=some ws:=hh rfl
   obtain⟨w1,w2⟩:=hr ws rfl
   have h59:=c59 w1 w2 s ha
   repeat' first|refine sP ?_ ?_<;>intro hb<;>(try rw[hb])<;>(try simp only[bb]at hb)<;>try simp only[go_sem,encR,rdV,hlen,hD,hD',ga1,ga2,sa1,sa2,length_append,append_assoc]|refine aI ?_|with_reducible refine cq h59 ?_|simp only[go_sem,encR,rdV,hlen,hD,hD',ga1,ga2,sa1,sa2,length_append,append_assoc]
   exact .base (by(first|exact wk_same (by simp only[go_sem,ic,stT,goT,if_true,pfx_appE,T4.belowH_appE,dadd,dadd0,hlen,hbel,hq3,hq5,Nat.le_add_right,length_append,length_cons,length_nil])|(refine wk_drop ?_ ?_ ?_ ?_ ?_<;>simp only[go_sem,ic,stT,goT,if_true,pfx_appE,T4.belowH_appE,dadd,dadd0,hlen,hbel,hq3,hq5,Nat.le_add_right,length_append,length_cons,length_nil])))
 ·rw[fold_town]
  repeat' first|refine sP ?_ ?_<;>intro hb<;>(try rw[hb])<;>(try simp only[bb]at hb)<;>try simp only[go_sem,hlen,hD,hD',ga1,ga2,sa1,sa2,length_append,append_assoc]|refine aI ?_|simp only[go_sem,hlen,hD,hD',ga1,ga2,sa1,sa2,length_append,append_assoc]
  refine⟨⟨[(4,.lp b 0)],H++[.box 35 (cT (townF line t rs)) false]⟩,.base ?_,?_⟩
  ·(first|exact wk_same (by simp only[go_sem,ic,pfx_appE,T4.belowH_appE,dadd,dadd0,hlen,hbel,hq3,hq5,Nat.le_add_right,length_append,length_cons,length_nil])|(refine wk_drop ?_ ?_ ?_ ?_ ?_<;>simp only[go_sem,ic,pfx_appE,T4.belowH_appE,dadd,dadd0,hlen,hbel,hq3,hq5,Nat.le_add_right,length_append,length_cons,length_nil]))
  ·(simp only[go_sem,ga2])
theorem goesL_len(line:Int): ∀(rs:List Rec) (t:Town),(goesL line t rs).length≤rs.length
 |[],_=>Nat.le_refl _
 |r::rs,t=>by
  rw[goesL];split
  ·simp
  ·have:=goesL_len line rs (goT t r).1;simp only[length_cons];omega
set_option maxHeartbeats 1000000 in
theorem c148(t:Town)(hv:vT t)(rs:List Rec)(hn:rs.length≤60)(hok: ∀r,r∈rs→okR r)(line:Int)(H:Heap)(b:Nat)(hd:Desk t rs b H):
  HCH prog 148 [.lp 3 0,.int .i64 line] H fun r H'=>r= .row (b+3) (holdF line t rs).length∧H'=H++[.box 24 [.row (b+3) (holdF line t rs).length] false,.box 120 [.lp 3 0] false,.box 3 [.int .i64 line] false,.row 3 1 (List.map encN (holdF line t rs)) false]:=by
 obtain⟨hlen,h6,hbel,hD,hR⟩:=id hd
 have hD': ∀own,(H++own)[3]? =some (.box 66 (HDK t rs) false):=fun own=>apl hD
 have ga1: ∀(own:Heap) (i:Nat),(H++own)[b+i]? =own[i]? :=fun own i=>T4.ga hlen i
 have ga2: ∀(own:Heap),(H++own)[b]? =own[0]? :=fun own=>T4.ga0 hlen
 have sa1: ∀(own:Heap) (i:Nat) (v:Blk),(H++own).set (b+i) v=H++own.set i v:=fun own i v=>T4.sa hlen i v
 have sa2: ∀(own:Heap) (v:Blk),(H++own).set b v=H++own.set 0 v:=fun own v=>T4.sa (i:=0) hlen v
 have hq3: ∀k,decide (3<b+k)=true:=fun k=>decide_eq_true (by omega)
 have hq5: ∀k,decide (5<b+k)=true:=fun k=>decide_eq_true (by omega)
 refine HCH.bodyN Tryz.func148 (by kernel_rfl) rfl (by simp[Tryz.f148]) ?_
 simp only[Tryz.f148]
 refine CV.run ?_
 repeat' first|refine sP ?_ ?_<;>intro hb<;>(try rw[hb])<;>(try simp only[bb]at hb)<;>try simp only[go_sem,hlen,hD,hD',ga1,ga2,sa1,sa2,length_append,append_assoc]|refine aI ?_|simp only[go_sem,hlen,hD,hD',ga1,ga2,sa1,sa2,length_append,append_assoc]
 refine vcP_here (c24 _ (b+1) line (by simp[hlen])) ?_
 rintro r H' ⟨rfl,rfl⟩
 repeat' first|refine sP ?_ ?_<;>intro hb<;>(try rw[hb])<;>(try simp only[bb]at hb)<;>try simp only[go_sem,hlen,hD,hD',ga1,ga2,sa1,sa2,length_append,append_assoc]|refine aI ?_|simp only[go_sem,hlen,hD,hD',ga1,ga2,sa1,sa2,length_append,append_assoc]
 rw[vc_range_eq]
 refine CV.wn (st':=⟨[(10,.fn 66 [.lp (b+1) 0,.lp (b+2) 0]),(5,.lp b 0)],H++[.box 24 [.row (b+3) 0] false,.box 120 [.lp 3 0] false,.box 3 [.int .i64 line] false,.row 3 1 [] false]⟩) (.nilB b 0 3 1 (ga2 _) rfl (by omega) (.base (T4.wk_eq (by(simp only[go_sem,hlen,append_assoc,sa2,length_append])) (by(simp only[go_sem]))))) ?_
 refine CV.rangeP rfl (by(try(simp only[go_sem,belowH,hlen,length_append]))<;>(try simp)<;>(try omega)) (H++[.box 24 [.row (b+3) (List.foldl stH [] (goesL line t rs)).length] false,.box 120 [.lp 3 0] false,.box 3 [.int .i64 line] false,.row 3 1 (List.map encN (List.foldl stH [] (goesL line t rs))) false]) (by simp) (by rw[length_append,hlen];exact belowH_app (hbel _) (by(try(simp only[go_sem,belowH]))<;>(try simp)<;>(try omega))) (by(try(simp only[go_sem,belowH,hlen,length_append]))<;>(try simp)<;>(try omega)) (fun l=>?_) ?_
 ·have hd2: ∀q:List Int,Desk t rs (b+4) (H++[.box 24 [.row (b+3) q.length] false,.box 120 [.lp 3 0] false,.box 3 [.int .i64 line] false,.row 3 1 (List.map encN q) false]):=fun q=>hd.app rfl (fun k=>by(try(simp only[go_sem,belowH]))<;>(try simp)<;>(try omega))
  refine c66L t hv rs hn hok line (b+4) l (b+1) _ _ _ _ _ (fun q=>H++[.box 24 [.row (b+3) q.length] false,.box 120 [.lp 3 0] false,.box 3 [.int .i64 line] false,.row 3 1 (List.map encN q) false]) stH (fun i q=>q.length=i) hd2 ?_ (fun s=>by rw[ga1];rfl) (fun s=>by rw[show b+1+1=b+2 from rfl,ga1];rfl) (fun i s x h=>by simp[stH,h]) (fun i s r hd own hi ha hr hh=>?_) [] rfl
  ·intro k
   (try(simp only[go_sem,belowH]))<;>(try simp)<;>(try omega)
  have hw1:((AV.agg (encR r)).pure)=true:=by simp[AV.pure,AV.pureL,encR,rdV_pure]
  refine HCY.body2 (H:=H++[.box 24 [.row (b+3) s.length] false,.box 120 [.lp 3 0] false,.box 3 [.int .i64 line] false,.row 3 1 (List.map encN s) false]) (H':=H++[.box 24 [.row (b+3) (stH s (r,hd)).length] false,.box 120 [.lp 3 0] false,.box 3 [.int .i64 line] false,.row 3 1 (List.map encN (stH s (r,hd))) false]) ?_ ?_ (by simp) (by rw[length_append,hlen];exact belowH_app (hbel _) (by(try(simp only[go_sem,belowH]))<;>(try simp)<;>(try omega))) ?_ ?_ ?_ ?_
  ·decide
  ·decide
  ·(try(simp only[go_sem,hlen,length_append]))<;>(try simp)<;>(try omega)
  ·exact hw1
  ·rfl
  have hsl:s.length≤60:=by omega
  cases hd with
  |false=>
   repeat' first|refine sP ?_ ?_<;>intro hb<;>(try rw[hb])<;>(try simp only[bb]at hb)<;>try simp only[go_sem,hlen,ga1,ga2,sa1,sa2,length_append,append_assoc,length_map]|refine aI ?_|simp only[go_sem,hlen,ga1,ga2,sa1,sa2,length_append,append_assoc,length_map]
   have e:stH s (r,false)=s++[0]:=rfl
   exact .base (by(first|exact wk_same (by simp only[go_sem,ic,e,encN,map_append,map_cons,map_nil,pfx_appE,T4.belowH_appE,dadd,dadd0,hlen,hbel,hq3,hq5,Nat.le_add_right,length_append,length_cons,length_nil])|(refine wk_drop ?_ ?_ ?_ ?_ ?_<;>simp only[go_sem,ic,e,encN,map_append,map_cons,map_nil,pfx_appE,T4.belowH_appE,dadd,dadd0,hlen,hbel,hq3,hq5,Nat.le_add_right,length_append,length_cons,length_nil])))
  |true=>
   have hkn:(((s.length+1:Nat):Int)-1).toNat=s.length:=by omega
   have k1:(0≤((s.length+1:Nat):Int)-1)=True:=eq_true (by omega)
   have k2:(((s.length+1:Nat):Int)-1<((s.length+1:Nat):Int))=True:=eq_true (by omega)
   repeat' first|refine sP ?_ ?_<;>intro hb<;>(try rw[hb])<;>(try simp only[bb]at hb)<;>try simp only[go_sem,hlen,ga1,ga2,sa1,sa2,hkn,k1,k2,length_append,append_assoc,length_map]|refine aI ?_|simp only[go_sem,hlen,ga1,ga2,sa1,sa2,hkn,k1,k2,length_append,append_assoc,length_map]
   have e:stH s (r,true)=s++[1]:=rfl
   have e2:(List.map encN s++[[AV.int .i64 0]]).set s.length (.int .i64 1::List.drop 1 ((List.map encN s++[[AV.int .i64 0]])[s.length]?.getD []))=List.map encN s++[[.int .i64 1]]:=by
    have h1:s.length=(List.map encN s).length:=by simp
    rw[List.set_append_right _ _ (by simp),List.getElem?_append_right (by simp)]
    simp
   exact .base (by(first|exact wk_same (by simp only[go_sem,ic,e,e2,encN,map_append,map_cons,map_nil,pfx_appE,T4.belowH_appE,dadd,dadd0,hlen,hbel,hq3,hq5,Nat.le_add_right,length_append,length_cons,length_nil])|(refine wk_drop ?_ ?_ ?_ ?_ ?_<;>simp only[go_sem,ic,e,e2,encN,map_append,map_cons,map_nil,pfx_appE,T4.belowH_appE,dadd,dadd0,hlen,hbel,hq3,hq5,Nat.le_add_right,length_append,length_cons,length_nil])))
 ·rw[fold_hold,List.nil_append]
  have hhl:=goesL_len line rs t
  repeat' first|refine sP ?_ ?_<;>intro hb<;>(try rw[hb])<;>(try simp only[bb]at hb)<;>try simp only[go_sem,hlen,hD,hD',ga1,ga2,sa1,sa2,length_append,append_assoc]|refine aI ?_|simp only[go_sem,hlen,hD,hD',ga1,ga2,sa1,sa2,length_append,append_assoc]
  exact⟨⟨[(4,.row (b+3) (holdF line t rs).length)],H++[.box 24 [.row (b+3) (holdF line t rs).length] false,.box 120 [.lp 3 0] false,.box 3 [.int .i64 line] false,.row 3 1 (List.map encN (holdF line t rs)) false]⟩,.base (by exact w0),rfl,rfl⟩
end Go.Proofs.YtoadkchhimojlaaGreatDoor.OV
