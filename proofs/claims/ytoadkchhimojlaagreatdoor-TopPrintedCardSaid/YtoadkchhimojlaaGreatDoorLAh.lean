/- Contracts of functions of the given program, without a condition beyond those that each theorem states; they lead to the given statement. -/
import Derived.Test.YtoadkchhimojlaaGreatDoorLAg
import Derived.Test.YtoadkchhimojlaaGreatDoorFlC
set_option linter.unusedSectionVars false
set_option linter.unusedSimpArgs false
set_option linter.unusedVariables false
set_option maxRecDepth 100000
open List(append_assoc append_nil cons_append getElem?_set_ne length_append length_cons length_map length_nil length_range map_append map_cons map_map map_nil nil_append take_left')
open Go.Proofs.Tryz(prog)
namespace Go.Proofs.YtoadkchhimojlaaGreatDoor
open Go Go.Fl
open Classical
def sZ05d_f33:Nat→List (Nat×Nat)
 |1=>[(0,0),(0,0),(0,0),(0,0),(0,0),(0,0),(0,1),(0,0),(0,0),(1,1)]
 |4=>[(0,0),(0,0),(0,0),(0,0),(0,0),(0,0),(0,0),(0,1),(0,0),(0,0),(1,1)]
 |_=>[]
attribute [go_sem] sZ05d_f33
def minB(K:List (List Int))(s:List Int):Bool:=K.all fun t=>decide (s=t)|| !decide (misS s t=zer12)
theorem minB_iff{K:List (List Int)}{s:List Int}:minB K s=true↔isMin K s:=by
 unfold minB isMin
 rw[List.all_eq_true]
 simp
def canC(a:Hall)(c:Int):List (List Int):=(keysF (foundN a c)).filter fun s=>minB (keysF (foundN a c)) s
def canL(a:Hall):List (List (List Int)):=(casesL a).map (canC a)
theorem canC_good(a:Hall)(c:Int):goodN (keysF (foundN a c)) (canC a c):=fun s=>by
 unfold canC;rw[List.mem_filter,minB_iff]
theorem canC_alt(a:Hall)(c:Int):canC a c∈altN a c:=
 mem_altN.2 ⟨⟨by unfold canC;exact Nat.le_trans (List.length_filter_le _ _) (by simp[keysF]),fun s hs=>(List.mem_filter.1 hs).1⟩,canC_good a c⟩
theorem fit_can(a:Hall): ∀cs:List Int,fitL a cs (cs.map (canC a))
 |[]=>trivial
 |c::cs=>⟨canC_alt a c,fit_can a cs⟩
theorem fit_same{a:Hall}: ∀{cs:List Int} {ls:List (List (List Int))},fitL a cs ls→sameL ls (cs.map (canC a))
 |[],[],_=>trivial
 |[],_::_,h=>h.elim
 |_::_,[],h=>h.elim
 |c::cs,l::ls,⟨h1,h2⟩=>⟨fun t=>by rw[(mem_altN.1 h1).2 t,canC_good a c t],fit_same h2⟩
theorem few_can{a:Hall}(ha:okH a)(h3:a.hs.bs.length≤3){ls:List (List (List Int))}(h:fitL a (casesL a) ls):fewL ls zer12=fewL (canL a) zer12:=
 fewL_same (ok_len12 fun c hc t ht=>(fitL_ok ha h3 h c hc).2 t ht) (ok_len12 fun c hc t ht=>(fitL_ok ha h3 (fit_can a _) c hc).2 t ht) rfl (fit_same h)
theorem can_ok{a:Hall}(ha:okH a)(h3:a.hs.bs.length≤3): ∀s,fewL (canL a) zer12=some s→okS s 3:=fun s hs=>
 fewL_ok (okS.zero.mono (by omega)) (fun c hc t ht=>(fitL_ok ha h3 (fit_can a _) c hc).2 t ht) hs
theorem c34(a:Hall)(ha:okH a):PC prog 34 [hH a,.bool true] (.tup [hH a,.int .i64 0]):=by
 have h43:=c75 a
 rw[show checkH a=0 from checkH0▸ha]at h43
 refine pB Tryz.func34 fun hlen=>CV.run ?_
 simp only[Tryz.f34]
 simp only[go_sem,length_map,and_true,true_and]at hlen
 repeat' first|refine sP ?_ ?_<;>intro hb<;>(try rw[hb])<;>(try simp only[bb]at hb)<;>(try simp only[within]at hb)<;>try simp only[go_sem]|refine aI ?_|with_reducible refine cq h43 ?_|simp only[go_sem]
def setR(x:Option (List Int)):AV:=match x with
 |none=> .tup [.nilS,.int .i64 3]
 |some s=> .tup [.lst false 3 ((setTo s 12).map encS),.int .i64 0]
theorem setR_pure(x:Option (List Int)):(setR x).pure=true:=by cases x<;>rfl
def numR(x:Option (List Int)):AV:=match x with
 |none=> .tup [.int .i64 0,.int .i64 3]
 |some s=> .tup [.int .i64 s.sum,.int .i64 0]
theorem numR_pure(x:Option (List Int)):(numR x).pure=true:=by cases x<;>rfl
theorem h35{a:Hall}(ha:okH a)(h3:a.hs.bs.length≤3){ls:List (List (List Int))}(h:fitL a (casesL a) ls):PC prog 35 [.agg (zer12.map I),lKK ls] (.tup [.agg (((fewL (canL a) zer12).getD zer12).map I),.bool (fewL (canL a) zer12).isSome]):=by
 have:=c35 ls zer12 (okS.zero.mono (by omega)) (fun c hc t ht=>(fitL_ok ha h3 h c hc).2 t ht) fun c hc=>(fitL_ok ha h3 h c hc).1
 unfold fewR at this
 rw[few_can ha h3 h]at this
 exact this
set_option maxHeartbeats 2000000 in
theorem c13(a:Hall)(ha:okH a)(h3:a.hs.bs.length≤3):PC prog 13 [hH a] (setR (fewL (canL a) zer12)):=by
 have h23:=c34 a ha
 have h25:=c36 a ha h3
 have hok:=can_ok ha h3
 refine PC.body Tryz.func13 (by kernel_rfl) rfl (by simp[Tryz.f13]) (setR_pure _) ?_
 simp only[Tryz.f13]
 intro hlen
 simp only[go_sem,length_map,and_true,true_and]at hlen
 refine CV.run ?_
 repeat' first|refine sP ?_ ?_<;>intro hb<;>(try rw[hb])<;>(try simp only[bb]at hb)<;>(try simp only[within]at hb)<;>try simp only[go_sem]|refine aI ?_|with_reducible refine cq h23 ?_|simp only[go_sem]
 refine vcP_alt h25 (by(simp only[go_sem])) (by(simp only[go_sem])) ?_
 intro v hv
 obtain⟨ls,hls,rfl⟩:=List.mem_map.1 hv
 have h35:=h35 ha h3 (mem_altsL.1 hls)
 rw[zer12_I]at h35
 generalize fewL (canL a) zer12=N at*
 repeat' first|refine sP ?_ ?_<;>intro hb<;>(try rw[hb])<;>(try simp only[bb]at hb)<;>(try simp only[within]at hb)<;>try simp only[go_sem]|refine aI ?_|simp only[go_sem]
 refine vcP_pure h35 (by simp[AV.pure,AV.pureL,pureL_mapI]) (by(simp only[go_sem])) (by(simp only[go_sem])) ?_
 cases N with
 |none=>
  repeat' first|refine sP ?_ ?_<;>intro hb<;>(try rw[hb])<;>(try simp only[bb]at hb)<;>(try simp only[within]at hb)<;>try simp only[go_sem,Option.getD_none,Option.isSome_none,zer12_I,setR]|refine aI ?_|simp only[go_sem,Option.getD_none,Option.isSome_none,zer12_I,setR]
 |some s=>
  have hs:=hok s rfl
  have h26:=c37 s hs.1
  repeat' first|refine sP ?_ ?_<;>intro hb<;>(try rw[hb])<;>(try simp only[bb]at hb)<;>(try simp only[within]at hb)<;>try simp only[go_sem,Option.getD_some,Option.isSome_some,allOne_mapI,tk12 hs.1,dr12 hs.1,hs.1,length_map,append_nil]|refine aI ?_|simp only[go_sem,Option.getD_some,Option.isSome_some,allOne_mapI,tk12 hs.1,dr12 hs.1,hs.1,length_map,append_nil]
  refine vcP_pure h26 rfl (by(simp only[go_sem,pureL_mapI])) (by(simp only[go_sem,frzL_mapI])) ?_
  repeat' first|refine sP ?_ ?_<;>intro hb<;>(try rw[hb])<;>(try simp only[bb]at hb)<;>(try simp only[within]at hb)<;>try simp only[go_sem,setR]|refine aI ?_|simp only[go_sem,setR]
theorem canL_ne(a:Hall):(altsL a (casesL a)).map lKK≠[]:=List.ne_nil_of_mem (List.mem_map.2 ⟨_,mem_altsL.2 (fit_can a _),rfl⟩)
set_option maxHeartbeats 2000000 in
theorem c33(a:Hall)(ha:okH a)(h3:a.hs.bs.length≤3):PC prog 33 [hH a,.nilS] (numR (fewL (canL a) zer12)):=by
 have h23:=c34 a ha
 have h25:=c36 a ha h3
 have hok:=can_ok ha h3
 have h35:PC prog 35 [.agg (zer12.map I),.alt ((altsL a (casesL a)).map lKK)] _:=PC.altArg [.agg (zer12.map I)] [] (canL_ne a) fun u hu=>by
  obtain⟨ls,hls,rfl⟩:=List.mem_map.1 hu
  exact h35 ha h3 (mem_altsL.1 hls)
 have h56:=c40n
 have h46:=c74 zer12 rfl (by decide)
 rw[zer12_I]at h35 h56 h46
 rw[show zer12.sum=0 from rfl]at h46
 generalize fewL (canL a) zer12=N at*
 refine PC.body Tryz.func33 (by kernel_rfl) rfl (by simp[Tryz.f33]) (numR_pure _) ?_
 simp only[Tryz.f33]
 intro hlen
 simp only[go_sem,length_map,and_true,true_and]at hlen
 refine CV.run ?_
 repeat' first|refine sP ?_ ?_<;>intro hb<;>(try rw[hb])<;>(try simp only[bb]at hb)<;>(try simp only[within]at hb)<;>try simp only[go_sem]|refine aI ?_|with_reducible refine dw sZ05d_f33 ?_|with_reducible refine cq c38n ?_|with_reducible refine cq h23 ?_|simp only[go_sem]
 refine dp h56 ⟨rfl,rfl,by(simp only[go_sem])⟩ ?_
 repeat' first|refine sP ?_ ?_<;>intro hb<;>(try rw[hb])<;>(try simp only[bb]at hb)<;>(try simp only[within]at hb)<;>try simp only[go_sem]|refine aI ?_|with_reducible refine dw sZ05d_f33 ?_|simp only[go_sem]
 refine dp h25 ⟨rfl,rfl,by(simp only[go_sem])⟩ ?_
 repeat' first|refine sP ?_ ?_<;>intro hb<;>(try rw[hb])<;>(try simp only[bb]at hb)<;>(try simp only[within]at hb)<;>try simp only[go_sem]|refine aI ?_|with_reducible refine dw sZ05d_f33 ?_|simp only[go_sem]
 refine dp h35 ⟨by simp[AV.pure,AV.pureL,pureL_mapI],rfl,by(simp only[go_sem])⟩ ?_
 cases N with
 |none=>
  repeat' first|refine sP ?_ ?_<;>intro hb<;>(try rw[hb])<;>(try simp only[bb]at hb)<;>(try simp only[within]at hb)<;>try simp only[go_sem,Option.getD_none,Option.isSome_none,zer12_I,numR]|refine aI ?_|with_reducible refine dw sZ05d_f33 ?_|simp only[go_sem,Option.getD_none,Option.isSome_none,zer12_I,numR]
 |some s=>
  have hs:=hok s rfl
  have hsum:=hs.sum
  have h46s:=c74 s hs.1 hs.bd
  repeat' first|refine sP ?_ ?_<;>intro hb<;>(try rw[hb])<;>(try simp only[bb]at hb)<;>(try simp only[within]at hb)<;>try simp only[go_sem,Option.getD_some,Option.isSome_some,allOne_mapI,tk12 hs.1,dr12 hs.1,hs.1,length_map,append_nil]|refine aI ?_|with_reducible refine dw sZ05d_f33 ?_|simp only[go_sem,Option.getD_some,Option.isSome_some,allOne_mapI,tk12 hs.1,dr12 hs.1,hs.1,length_map,append_nil]
  refine vcP_pure h46s rfl (by(simp only[go_sem,pureL_mapI])) (by(simp only[go_sem,frzL_mapI])) ?_
  repeat' first|refine sP ?_ ?_<;>intro hb<;>(try rw[hb])<;>(try simp only[bb]at hb)<;>(try simp only[within]at hb)<;>try simp only[go_sem]|refine aI ?_|with_reducible refine dw sZ05d_f33 ?_|simp only[go_sem]
  refine vcP_pure h56 rfl rfl (by(simp only[go_sem])) ?_
  repeat' first|refine sP ?_ ?_<;>intro hb<;>(try rw[hb])<;>(try simp only[bb]at hb)<;>(try simp only[within]at hb)<;>try simp only[go_sem]|refine aI ?_|with_reducible refine dw sZ05d_f33 ?_|simp only[go_sem]
  refine vcP_pure h46 rfl rfl (by(simp only[go_sem])) ?_
  repeat' first|refine sP ?_ ?_<;>intro hb<;>(try rw[hb])<;>(try simp only[bb]at hb)<;>(try simp only[within]at hb)<;>try simp only[go_sem,numR,Int.sub_zero]|refine aI ?_|with_reducible refine dw sZ05d_f33 ?_|simp only[go_sem,numR,Int.sub_zero]
  omega
theorem c12(a:Hall)(ha:okH a)(h3:a.hs.bs.length≤3):PC prog 12 [hH a] (numR (fewL (canL a) zer12)):=by
 have h42:=c33 a ha h3
 generalize fewL (canL a) zer12=N at*
 refine PC.body Tryz.func12 (by kernel_rfl) rfl (by simp[Tryz.f12]) (numR_pure _) ?_
 simp only[Tryz.f12]
 intro hlen
 simp only[go_sem,length_map,and_true,true_and]at hlen
 refine CV.run ?_
 repeat' first|refine sP ?_ ?_<;>intro hb<;>(try rw[hb])<;>(try simp only[bb]at hb)<;>(try simp only[within]at hb)<;>try simp only[go_sem]|refine aI ?_|simp only[go_sem]
 refine vcP_pure h42 (numR_pure _) rfl (by(simp only[go_sem])) ?_
 cases N with
 |none=>repeat' first|refine sP ?_ ?_<;>intro hb<;>(try rw[hb])<;>(try simp only[bb]at hb)<;>(try simp only[within]at hb)<;>try simp only[go_sem,numR]|refine aI ?_|simp only[go_sem,numR]
 |some s=>repeat' first|refine sP ?_ ?_<;>intro hb<;>(try rw[hb])<;>(try simp only[bb]at hb)<;>(try simp only[within]at hb)<;>try simp only[go_sem,numR]|refine aI ?_|simp only[go_sem,numR]
def sZ05e_f27(_:Nat):List (Nat×Nat):=[(0,0),(0,0),(0,0),(0,0),(0,1),(0,1),(0,1),(0,0),(0,2),(0,2),(0,2),(0,0),(0,3),(0,3),(3,3),(0,0)]
attribute [go_sem] sZ05e_f27
def exK:Hall:=⟨⟨[⟨0,2,1⟩,⟨0,2,1⟩],[⟨0,2,0⟩,⟨1,3,1⟩],[5,12],2⟩,[0,1],[[0,1],[0,2]]⟩
theorem exK_ok:okH exK:=by
 refine⟨⟨by decide,by decide,by decide,by decide,⟨by decide,by decide⟩,by simp[exK,okMa,within],by simp[exK,within],by simp[exK,okBu,within]⟩,rfl,by decide,by simp[exK,within],fun l hl=>?_,by simp[exK]⟩
 simp only[exK,List.mem_cons,List.not_mem_nil,or_false]at hl
 rcases hl with rfl|rfl
 ·intro j hj
  have hc:j=0∨j=1:=by simp at hj;omega
  rcases hc with rfl|rfl
  ·exact⟨0,rfl,⟨by decide,by decide⟩,fun h=>by omega⟩
  ·exact⟨1,rfl,⟨by decide,by decide⟩,fun _=>⟨0,rfl,by decide⟩⟩
 ·intro j hj
  have hc:j=0∨j=1:=by simp at hj;omega
  rcases hc with rfl|rfl
  ·exact⟨0,rfl,⟨by decide,by decide⟩,fun h=>by omega⟩
  ·exact⟨2,rfl,⟨by decide,by decide⟩,fun _=>⟨0,rfl,by decide⟩⟩
theorem exK_six:(fewL (canL exK) zer12).map List.sum=some 6:=by kernel_rfl
theorem not_hugeG{h:House}(q: ¬hugeG h):h.ms.length≤40∧h.bs.length≤40∧h.ts.length≤40:=by unfold hugeG at q;omega
theorem c27(h:House)(q: ¬hugeG h):PC prog 27 [hG h] (hG h):=by
 have nh:=not_hugeG q
 refine pB Tryz.func27 fun hlen=>CV.run ?_
 simp only[Tryz.f27]
 simp only[go_sem,length_map,and_true,true_and]at hlen
 repeat' first|refine sP ?_ ?_<;>intro hb<;>(try rw[hb])<;>(try simp only[bb]at hb)<;>(try simp only[within]at hb)<;>try simp only[go_sem]|refine aI ?_|with_reducible refine dw sZ05e_f27 ?_|simp only[go_sem]
 exact⟨⟨by omega,by omega,.inl trivial⟩,⟨by omega,by omega,.inl trivial⟩,by omega,by omega,.inl trivial⟩
abbrev aK:List AV:=[.lst false 3 [[.int .i64 0,.int .i64 2,.int .i64 1],[.int .i64 0,.int .i64 2,.int .i64 1]],.lst false 3 [[.int .i64 0,.int .i64 2,.int .i64 0],[.int .i64 1,.int .i64 3,.int .i64 1]],.lst false 1 [[.int .i64 5],[.int .i64 12]],.int .i64 2,.lst false 1 [[.int .i64 0],[.int .i64 1]],.lst false 1 [[.lst true 1 [[.int .i64 0],[.int .i64 1]]],[.lst true 1 [[.int .i64 0],[.int .i64 2]]]]]
end Go.Proofs.YtoadkchhimojlaaGreatDoor
namespace Go.Proofs.YtoadkchhimojlaaGreatDoor.T4
open Go Go.Fl
open Classical
set_option maxHeartbeats 4000000 in
theorem c219(x:Int)(h0:0≤x)(h1:x<16):PC prog 219 [.int .u64 x] (.int .i64 (pop x)):=by
 have hc:x=0∨x=1∨x=2∨x=3∨x=4∨x=5∨x=6∨x=7∨x=8∨x=9∨x=10∨x=11∨x=12∨x=13∨x=14∨x=15:=by omega
 rcases hc with rfl|rfl|rfl|rfl|rfl|rfl|rfl|rfl|rfl|rfl|rfl|rfl|rfl|rfl|rfl|rfl
 all_goals
  refine pB Tryz.func219 fun hlen=>CV.run ?_
  simp only[Tryz.f219]
  simp only[go_sem,length_map,and_true,true_and]at hlen
  repeat' first|refine sP ?_ ?_<;>intro hb<;>(try rw[hb])<;>(try simp only[bb]at hb)<;>(try simp only[within]at hb)<;>try simp only[go_sem,U64,I64,pop]|refine aI ?_|simp only[go_sem,U64,I64,pop]
theorem c195(x:Int)(h0:0≤x)(h1:x<16):PC prog 195 [.int .u64 x] (.int .i64 (pop x)):=by
 have h98:=c219 x h0 h1
 refine pB Tryz.func195 fun hlen=>CV.run ?_
 simp only[Tryz.f195]
 simp only[go_sem,length_map,and_true,true_and]at hlen
 repeat' first|refine sP ?_ ?_<;>intro hb<;>(try rw[hb])<;>(try simp only[bb]at hb)<;>(try simp only[within]at hb)<;>try simp only[go_sem]|refine aI ?_|with_reducible refine cq h98 ?_|simp only[go_sem]
attribute [go_sem] argEnv7
abbrev rowE(b:Nat)(p:List (List Int))(g:Nat→Nat)(m:Nat):List AV:=[.rg (b+(m+5)) (p.getD m []).length (g m)]
abbrev capsP(b:Nat)(h:House)(stop:Int):List AV:=[.lp (b+2) 0,.lp b 0,.pp (cG h),.lp (b+4) 0,.pp [.int .i64 stop],.lp (b+3) 0]
abbrev ownP(b l:Nat)(h:House)(stop:Int)(p:List (List Int))(j:Nat→List Int)(g:Nat→Nat):Heap:=
 .box 271 [.yld l] false:: .row 24 1 ((List.range h.ms.length).map (rowE b p g)) false:: .box 27 [.row (b+1) h.ms.length] false:: .box 3 [.int .i64 (bs (usd p) 5)] false:: .box 162 [.fn 198 (capsP b h stop)] false::(List.range h.ms.length).map (rgE p j g)
theorem ga{H own:Heap}{b:Nat}(h:H.length=b)(i:Nat):(H++own)[b+i]? =own[i]? :=by
 rw[List.getElem?_append_right (by omega)];congr 1;omega
theorem ga0{H own:Heap}{b:Nat}(h:H.length=b):(H++own)[b]? =own[0]? :=ga (i:=0) h
theorem sa{H own:Heap}{b:Nat}(h:H.length=b)(i:Nat)(v:Blk):(H++own).set (b+i) v=H++own.set i v:=by
 rw[List.set_append_right _ _ (by omega)];congr 2;omega
theorem frzP{H:Heap}{b k:Nat}{p:List (List Int)}{j:Nat→List Int}{g:Nat→Nat}(hp:p.length=k)(hr: ∀m,m<k→H[b+(m+5)]? =some (rgE p j g m)):
  frzE H ((List.range k).map (rowE b p g)) (p.map encP)=True:=by
 have key: ∀(q:List (List Int)) (i:Nat),(∀m,m<q.length→q[m]? =p[i+m]?)→i+q.length=k→frzE H ((List.range' i q.length).map (rowE b p g)) (q.map encP):=by
  intro q
  induction q with
  |nil=>intro i _ _;rfl
  |cons l q ih=>
   intro i h1 h2
   have h0:=h1 0 (by simp)
   simp only[List.getElem?_cons_zero,Nat.add_zero]at h0
   have hl:p.getD i []=l:=by rw[List.getD_eq_getElem?_getD,← h0];rfl
   simp only[length_cons,List.range'_succ,map_cons]
   simp only[length_cons]at h2
   refine⟨⟨⟨rfl,?_⟩,rfl⟩,ih (i+1) (fun m hm=>by have:=h1 (m+1) (by simpa using hm);simpa[Nat.add_assoc,Nat.add_comm 1 m]using this) (by omega)⟩
   rw[hr i (by omega)]
   refine⟨rfl,rfl,?_⟩
   rw[hl,map_append,take_left' (by simp)]
   exact frzE_self H _ (by rw[pureN];trivial)
 have:=key p 0 (fun m _=>by rw[Nat.zero_add]) (by omega)
 rw[hp,← List.range_eq_range']at this
 exact eq_true this
def sZ06f_f198:Nat→List (Nat×Nat)
 |2=>[(0,0),(0,0),(0,0),(0,0),(0,0),(0,0),(0,0),(0,0),(1,1)]
 |11=>[(0,0),(0,0),(0,0),(0,0),(0,0)]
 |12=>[(0,1),(0,1),(0,0),(0,0),(0,0),(0,0),(0,0),(0,0),(0,0),(1,1),(0,0)]
 |14=>[(0,0),(0,0),(0,0),(0,0),(0,0),(0,0),(0,0),(0,0),(0,0),(0,0),(0,0),(0,0),(0,0),(0,0),(0,0)]
 |15=>[(0,0),(0,0),(0,0),(0,0),(0,0)]
 |_=>[]
attribute [go_sem] sZ06f_f198
structure Cons(σ:Type)(h:House)(b l:Nat)(stop:Int)(HC:σ→Heap)(al:σ→Prop)(st:σ→List (List Int)→σ×Bool):Prop where
 len: ∀s,(HC s).length=b
 go: ∀s p,al s→okQ h.ms.length h.bs.length p→(st s p).2=true→al (st s p).1
 yl: ∀s p j g,al s→okQ h.ms.length h.bs.length p→HCY prog l [.row (b+1) h.ms.length,.agg ((rdy h (tim h p)).map I)] (HC s++ownP b l h stop p j g) fun r H2=>r= .bool (st s p).2∧H2=HC (st s p).1++ownP b l h stop p j g
set_option maxHeartbeats 8000000 in
theorem c198{σ:Type}(h:House)(hk:okG h)(b l:Nat)(stop:Int)(HC:σ→Heap)(al:σ→Prop)(st:σ→List (List Int)→σ×Bool)(hc:Cons σ h b l stop HC al st):
  ∀(f m:Nat) (p:List (List Int)) (s:σ) (j:Nat→List Int) (g:Nat→Nat),okQ h.ms.length h.bs.length p→m≤h.ms.length→(h.ms.length-m)+cnt (usd p) h.bs.length+1≤f→al s→
   HCH prog 198 (.int .i64 m::capsP b h stop) (HC s++ownP b l h stop p j g) fun r H'=> ∃j' g',r= .bool (runC st s (plansF h.ms.length stop h.bs.length f m p)).2∧H'=HC (runC st s (plansF h.ms.length stop h.bs.length f m p)).1++ownP b l h stop p j' g'∧((runC st s (plansF h.ms.length stop h.bs.length f m p)).2=true→al (runC st s (plansF h.ms.length stop h.bs.length f m p)).1):=by
 obtain⟨k1,k2,k3,k4,k5,k6,k7,k8⟩:=id hk
 intro f
 induction f with
 |zero=>intro m p s j g hq hm hf;omega
 |succ f ih=>
  intro m p s j g hq hm hf hal
  have hlen:=hc.len
  have ga1: ∀(s:σ) (own:Heap) (i:Nat),(HC s++own)[b+i]? =own[i]? :=fun s own i=>ga (hlen s) i
  have ga2: ∀(s:σ) (own:Heap),(HC s++own)[b]? =own[0]? :=fun s own=>ga0 (hlen s)
  have sa1: ∀(s:σ) (own:Heap) (i:Nat) (v:Blk),(HC s++own).set (b+i) v=HC s++own.set i v:=fun s own i v=>sa (hlen s) i v
  refine HCH.body Tryz.func198 (by kernel_rfl) rfl (by simp[Tryz.f198]) ?_
  simp only[Tryz.f198]
  refine CV.run ?_
  by_cases hmk:m=h.ms.length
  ·subst hmk
   have c1:=c160 h hk p (hq.okP hk)
   have c2:=c159 h hk (tim h p) (tim_len h p)
   have hrow: ∀i,i<h.ms.length→ ∀s':σ,(HC s'++ownP b l h stop p j g)[b+(i+5)]? =some (rgE p j g i):=fun i hi s'=>by
    rw[ga1];simp[rng_get hi]
   have hfz:=frzP (j:=j) (g:=g) hq.len (fun i hi=>hrow i hi s)
   repeat' first|refine sP ?_ ?_<;>intro hb<;>(try rw[hb])<;>(try simp only[bb]at hb)<;>(try simp only[within]at hb)<;>try simp only[go_sem,ga1,ga2,sa1,length_range,hfz,pureL_mapI]|refine aI ?_|with_reducible refine dw sZ06f_f198 ?_|simp only[go_sem,ga1,ga2,sa1,length_range,hfz,pureL_mapI]
   refine dsx c1 (pureL_mapI _) (safeL_mapI _) ?_
   repeat' first|refine sP ?_ ?_<;>intro hb<;>(try rw[hb])<;>(try simp only[bb]at hb)<;>(try simp only[within]at hb)<;>try simp only[go_sem,ga1,ga2,sa1,length_range,hfz,pureL_mapI]|refine aI ?_|with_reducible refine dw sZ06f_f198 ?_|simp only[go_sem,ga1,ga2,sa1,length_range,hfz,pureL_mapI]
   refine dsx c2 (pureL_mapI _) (safeL_mapI _) ?_
   repeat' first|refine sP ?_ ?_<;>intro hb<;>(try rw[hb])<;>(try simp only[bb]at hb)<;>(try simp only[within]at hb)<;>try simp only[go_sem,ga1,ga2,sa1,length_range,hfz,pureL_mapI]|refine aI ?_|with_reducible refine dw sZ06f_f198 ?_|simp only[go_sem,ga1,ga2,sa1,length_range,hfz,pureL_mapI]
   refine dCallY_mk ?_ (hc.yl s p j g hal hq) ?_
   ·(simp only[go_sem])
   repeat' first|refine sP ?_ ?_<;>intro hb<;>(try rw[hb])<;>(try simp only[bb]at hb)<;>(try simp only[within]at hb)<;>try simp only[go_sem,ga1,ga2,sa1,length_range,hfz,pureL_mapI,frzL_mapI]|refine aI ?_|with_reducible refine dw sZ06f_f198 ?_|simp only[go_sem,ga1,ga2,sa1,length_range,hfz,pureL_mapI,frzL_mapI]
   have e:plansF h.ms.length stop h.bs.length (f+1) h.ms.length p=[p]:=by simp[plansF]
   rw[e,runC_one]
   exact⟨j,g,rfl,rfl,hc.go s p hal hq⟩
  ·have hlt:m<h.ms.length:=by omega
   have hne:(m:Int)≠h.ms.length:=by omega
   have hI:I64 ((m:Int)+1)=True:=eq_true (by unfold I64;omega)
   repeat' first|refine sP ?_ ?_<;>intro hb<;>(try rw[hb])<;>(try simp only[bb]at hb)<;>(try simp only[within]at hb)<;>try simp only[go_sem,ga1,ga2,sa1,length_range,hne,hI]|refine aI ?_|with_reducible refine dw sZ06f_f198 ?_|simp only[go_sem,ga1,ga2,sa1,length_range,hne,hI]
   refine vcP_raw ((ih (m+1) p s j g hq hlt (by omega) hal).mono ?_)
   rintro r H' ⟨j1,g1,rfl,rfl,hal1⟩
   have eP:plansF h.ms.length stop h.bs.length (f+1) m p=plansF h.ms.length stop h.bs.length f (m+1) p++(if(m:Int)=stop then []else adds h.ms.length stop h.bs.length f m p h.bs.length):=by simp[plansF,hmk,adds]
   rw[eP]
   generalize plansF h.ms.length stop h.bs.length f (m+1) p=L1 at hal1 ⊢
   cases hR:(runC st s L1).2 with
   |false=>
    repeat' first|refine sP ?_ ?_<;>intro hb<;>(try rw[hb])<;>(try simp only[bb]at hb)<;>(try simp only[within]at hb)<;>try simp only[go_sem,ga1,ga2,sa1,length_range]|refine aI ?_|with_reducible refine dw sZ06f_f198 ?_|simp only[go_sem,ga1,ga2,sa1,length_range]
    refine⟨j1,g1,?_,?_,?_⟩
    ·rw[runC_app,hR];simp
    ·rw[runC_app,hR];simp
    ·rw[runC_app,hR];simp
   |true=>
    by_cases hst:(m:Int)=stop
    ·repeat' first|refine sP ?_ ?_<;>intro hb<;>(try rw[hb])<;>(try simp only[bb]at hb)<;>(try simp only[within]at hb)<;>try simp only[go_sem,ga1,ga2,sa1,length_range,hst]|refine aI ?_|with_reducible refine dw sZ06f_f198 ?_|simp only[go_sem,ga1,ga2,sa1,length_range,hst]
     exact⟨j1,g1,by rw[hR],rfl,hal1⟩
    ·rw[if_neg hst]
     repeat' first|refine sP ?_ ?_<;>intro hb<;>(try rw[hb])<;>(try simp only[bb]at hb)<;>(try simp only[within]at hb)<;>try simp only[go_sem,ga1,ga2,sa1,length_range,hst]|refine aI ?_|with_reducible refine dw sZ06f_f198 ?_|simp only[go_sem,ga1,ga2,sa1,length_range,hst]
     refine vc_fx (fun i (x:σ×(Nat→List Int)×(Nat→Nat))=>⟨[(34,.int .i64 i),(33,.int .i64 h.bs.length),(0,.int .i64 m),(1,.lp (b+2) 0),(2,.lp b 0),(3,.pp (cG h)),(4,.lp (b+4) 0),(5,.pp [.int .i64 stop]),(6,.lp (b+3) 0),(8,.bool false)],HC x.1++ownP b l h stop p x.2.1 x.2.2⟩) h.bs.length (fun i x=>runC st s (L1++adds h.ms.length stop h.bs.length f m p i)=(x.1,true)∧al x.1) ((runC st s L1).1,j1,g1) (.base (by exact w0)) ⟨by simp[adds,← hR],hal1 hR⟩ ?_
     rintro i ⟨s1,j2,g2⟩ hi ⟨x1,x2⟩
     simp only at x1 x2
     rcases Nat.lt_or_ge i h.bs.length with hlt2|hge
     ·have hlt2':(i:Int)<h.bs.length:=by omega
      have hi5:i<5:=by omega
      have hU:bs (usd p) 5<32:=Nat.lt_of_lt_of_le (bs_lt (usd p) 5) (by decide)
      have hbit:=bs_bit (f:=usd p) hi5
      have a1:((bs (usd p) 5:Nat):Int) / 2^i=((bs (usd p) 5 / 2^i:Nat):Int):=by simp
      have a2:bs (usd p) 5 / 2^i≤bs (usd p) 5:=Nat.div_le_self _ _
      have a3:(I64 ((bs (usd p) 5 / 2^i:Nat):Int))=True:=eq_true (by generalize bs (usd p) 5 / 2^i=q at a2;unfold I64;omega)
      have a7:(0≤((bs (usd p) 5 / 2^i:Nat):Int))=True:=eq_true (Int.natCast_nonneg _)
      have a4:bs (usd p) 5 / 2^i &&& 1=bs (usd p) 5 / 2^i % 2:=Nat.and_one_is_mod _
      have a5:(I64 1)=True:=eq_true (by unfold I64;omega)
      have a6:(I64 ((i:Int)+1))=True:=eq_true (by unfold I64;omega)
      cases hu:usd p i with
      |true=>
       rw[hu,if_pos rfl]at hbit
       repeat' first|refine sP ?_ ?_<;>intro hb<;>(try rw[hb])<;>(try simp only[bb]at hb)<;>(try simp only[within]at hb)<;>try simp only[go_sem,hlt2',ga1,ga2,sa1,a1,a3,a4,a5,a6,a7,hbit]|refine aI ?_|with_reducible refine dw sZ06f_f198 ?_|simp only[go_sem,hlt2',ga1,ga2,sa1,a1,a3,a4,a5,a6,a7,hbit]
       refine⟨(s1,j2,g2),hlt2,.base (by exact w0),?_,x2⟩
       rw[adds_yes hu];exact x1
      |false=>
       rw[hu,if_neg (by simp)]at hbit
       obtain⟨lm,hlm⟩:=get_of (l:=p) (j:=m) (by rw[hq.len];exact hlt)
       have hmp:m<p.length:=by rw[hq.len];exact hlt
       have hlmd:p.getD m []=lm:=by simp[hlm]
       have hlen5:lm.length≤5:=by have:=hq.short (List.mem_of_getElem? hlm);omega
       have hq':=hq.add (m:=m) (b:=i) hlt hlt2 hu
       have b1:(1:Int)*2^i=((2^i:Nat):Int):=by simp
       have b2:bs (usd p) 5 ||| 2^i=bs (usd (addB p m i)) 5:=by rw[bit_or _ hU _ hi5 hbit,bs_add hu (usd_add hmp) 5 hi5]
       have b3:bs (usd (addB p m i)) 5 &&& (18446744073709551615-2^i)=bs (usd p) 5:=by rw[bs_add hu (usd_add hmp) 5 hi5];exact bit_an _ hU _ hi5 hbit
       have b4:2^i≤16:=by
        have:i≤4:=by omega
        exact Nat.pow_le_pow_right (n:=2) (by omega) this
       have b5:(I64 ((2^i:Nat):Int))=True:=eq_true (by generalize 2^i=q at b4;unfold I64;omega)
       have b8:(0≤((2^i:Nat):Int))=True:=eq_true (Int.natCast_nonneg _)
       have b6:(I64 ((bs (usd p) 5:Nat):Int))=True:=eq_true (by unfold I64;omega)
       have hU':bs (usd (addB p m i)) 5<32:=Nat.lt_of_lt_of_le (bs_lt _ 5) (by decide)
       have b7:(I64 ((bs (usd (addB p m i)) 5:Nat):Int))=True:=eq_true (by unfold I64;omega)
       have hm3:(m:Int)<h.ms.length:=by omega
       have hrm:=rng_get hlt
       have r1:((List.range h.ms.length).map (rowE b p g2)).set m [.rg (b+(m+5)) (lm.length+1) (g2 m+1)]=(List.range h.ms.length).map (rowE b (addB p m i) fun x=>if x=m then g2 m+1 else g2 x):=
        map_rng_set (by simp[addB,List.getElem?_set_self hmp,hlm]) fun x hx=>by simp[addB,getElem?_set_ne (Ne.symm hx),hx]
       have t1:List.take lm.length ((lm++j2 m).map encN)=lm.map encN:=by rw[map_append];exact take_left' (by simp)
       have r2:((List.range h.ms.length).map (rgE p j2 g2)).set m (.rg 3 1 (lm.map encN++[[.int .i64 (i:Int)]]) (g2 m+1))=(List.range h.ms.length).map (rgE (addB p m i) (fun x=>if x=m then []else j2 x) fun x=>if x=m then g2 m+1 else g2 x):=
        map_rng_set (by simp[addB,List.getElem?_set_self hmp,hlm,encN]) fun x hx=>by simp[addB,getElem?_set_ne (Ne.symm hx),hx]
       repeat' first|refine sP ?_ ?_<;>intro hb<;>(try rw[hb])<;>(try simp only[bb]at hb)<;>(try simp only[within]at hb)<;>try simp only[go_sem,hlt2',ga1,ga2,sa1,a1,a3,a4,a5,a6,a7,hbit,b1,b2,b5,b6,b8,hm3,hrm,hlm,r1,t1,r2,length_range]|refine aI ?_|with_reducible refine dw sZ06f_f198 ?_|simp only[go_sem,hlt2',ga1,ga2,sa1,a1,a3,a4,a5,a6,a7,hbit,b1,b2,b5,b6,b8,hm3,hrm,hlm,r1,t1,r2,length_range]
       refine⟨⟨by omega,by omega,by simp⟩,by omega,hlt,?_⟩
       refine vcP_raw ((ih m (addB p m i) s1 (fun x=>if x=m then []else j2 x) (fun x=>if x=m then g2 m+1 else g2 x) hq' (by omega) (by have:=cnt_add hu (usd_add (b:=i) hmp) h.bs.length hlt2;omega) x2).mono ?_)
       rintro r H' ⟨j3,g3,rfl,rfl,hal3⟩
       have hadd:=adds_no (k:=h.ms.length) (stop:=stop) (nb:=h.bs.length) (f:=f) (m:=m) hu
       have hrun:runC st s (L1++adds h.ms.length stop h.bs.length f m p (i+1))=runC st s1 (plansF h.ms.length stop h.bs.length f m (addB p m i)):=by
        rw[hadd,← append_assoc,runC_app,x1];rfl
       generalize plansF h.ms.length stop h.bs.length f m (addB p m i)=L2 at hal3 hrun ⊢
       have hlm':(addB p m i)[m]? =some (lm++[(i:Int)]):=by simp[addB,List.getElem?_set_self hmp,hlm]
       have r3:((List.range h.ms.length).map (rowE b (addB p m i) g3)).set m [.rg (b+(m+5)) lm.length (g3 m)]=(List.range h.ms.length).map (rowE b p g3):=
        map_rng_set (by simp[hlm]) fun x hx=>by simp[addB,getElem?_set_ne (Ne.symm hx)]
       have r4:(List.range h.ms.length).map (rgE (addB p m i) j3 g3)=(List.range h.ms.length).map (rgE p (fun x=>if x=m then(i:Int)::j3 m else j3 x) g3):=by
        refine List.map_congr_left fun x _=>?_
        by_cases e:x=m
        ·subst e;simp[hlm',hlm]
        ·simp[addB,getElem?_set_ne (Ne.symm e),e]
       have t2:((lm.length+1:Nat):Int)-1=(lm.length:Int):=by omega
       repeat' first|refine sP ?_ ?_<;>intro hb<;>(try rw[hb])<;>(try simp only[bb]at hb)<;>(try simp only[within]at hb)<;>try simp only[go_sem,hlt2',ga1,ga2,sa1,a5,a6,b1,b3,b5,b7,b8,hm3,hrm,hlm',r3,r4,t2,length_range,length_append,length_cons,length_nil]|refine aI ?_|with_reducible refine dw sZ06f_f198 ?_|simp only[go_sem,hlt2',ga1,ga2,sa1,a5,a6,b1,b3,b5,b7,b8,hm3,hrm,hlm',r3,r4,t2,length_range,length_append,length_cons,length_nil]
       ·have hR2:(runC st s1 L2).2=false:=by simpa using hb
        obtain⟨r,hr⟩:=adds_pre (k:=h.ms.length) (stop:=stop) (nb:=h.bs.length) (f:=f) (m:=m) (p:=p) (show i+1≤h.bs.length from hlt2)
        have e3:runC st s (L1++adds h.ms.length stop h.bs.length f m p h.bs.length)=((runC st s1 L2).1,false):=by
         rw[hr,← append_assoc,runC_app,hrun,hR2];rfl
        rw[e3]
        exact⟨_,_,rfl,rfl,fun e=>by cases e⟩
       ·have hR2:(runC st s1 L2).2=true:=by simpa using hb
        exact⟨((runC st s1 L2).1,(fun x=>if x=m then(i:Int)::j3 m else j3 x),g3),hlt2,.base (by exact w0),by rw[hrun,← hR2],hal3 hR2⟩
     ·have hge': ¬(i:Int)<h.bs.length:=by omega
      have:i=h.bs.length:=by omega
      subst this
      repeat' first|refine sP ?_ ?_<;>intro hb<;>(try rw[hb])<;>(try simp only[bb]at hb)<;>(try simp only[within]at hb)<;>try simp only[go_sem,hge']|refine aI ?_|with_reducible refine dw sZ06f_f198 ?_|simp only[go_sem,hge']
      rw[x1]
      exact⟨j2,g2,rfl,rfl,fun _=>x2⟩
theorem c179(h:House)(stop:Int):PC prog 179 [hG h,.int .i64 stop] (.fn 197 [.pp (cG h),.pp [.int .i64 stop]]):=by
 refine pB Tryz.func179 fun hlen=>CV.run ?_
 simp only[Tryz.f179]
 simp only[go_sem,length_map,and_true,true_and]at hlen
 repeat' first|refine sP ?_ ?_<;>intro hb<;>(try rw[hb])<;>(try simp only[bb]at hb)<;>(try simp only[within]at hb)<;>try simp only[go_sem]|refine aI ?_|simp only[go_sem]
set_option maxHeartbeats 1000000 in
theorem c197{σ:Type}(h:House)(hk:okG h)(b l:Nat)(stop:Int)(HC:σ→Heap)(al:σ→Prop)(st:σ→List (List Int)→σ×Bool)(hc:Cons σ h b l stop HC al st)(s:σ)(hal:al s):
  HCH prog 197 [.yld l,.pp (cG h),.pp [.int .i64 stop]] (HC s) fun r H'=> ∃rest,H'=HC (runC st s (plansG h stop)).1++rest:=by
 obtain⟨k1,k2,k3,k4,k5,k6,k7,k8⟩:=id hk
 have hlen:=hc.len
 have ga1: ∀(s:σ) (own:Heap) (i:Nat),(HC s++own)[b+i]? =own[i]? :=fun s own i=>ga (hlen s) i
 have ga2: ∀(s:σ) (own:Heap),(HC s++own)[b]? =own[0]? :=fun s own=>ga0 (hlen s)
 have sa1: ∀(s:σ) (own:Heap) (i:Nat) (v:Blk),(HC s++own).set (b+i) v=HC s++own.set i v:=fun s own i v=>sa (hlen s) i v
 have tn:((h.ms.length:Int)).toNat=h.ms.length:=Int.toNat_natCast _
 have h94:=c198 h hk b l stop HC al st hc (h.ms.length+h.bs.length+1) 0 (List.replicate h.ms.length []) s (fun _=>[]) (fun _=>0) (okQ_nil _ _) (Nat.zero_le _) (by have:=cnt_le (usd (List.replicate h.ms.length [])) h.bs.length;omega) hal
 refine HCH.body Tryz.func197 (by kernel_rfl) rfl (by simp[Tryz.f197]) ?_
 simp only[Tryz.f197]
 refine CV.run ?_
 repeat' first|refine sP ?_ ?_<;>intro hb<;>(try rw[hb])<;>(try simp only[bb]at hb)<;>(try simp only[within]at hb)<;>try simp only[go_sem,ga1,ga2,sa1,hlen,tn,append_assoc,length_append,List.length_replicate]|refine aI ?_|simp only[go_sem,ga1,ga2,sa1,hlen,tn,append_assoc,length_append,List.length_replicate]
 refine vcP_raw ?_
 rw[show∀A B C D E:Blk,HC s++[A,B,C,D,E]=(HC s++[A])++B::[C,D,E]from fun A B C D E=>by simp]
 refine HCH.nilGs (el:=3) (sz:=1) (by omega) _ _ _ ?_
 have e: ∀(A C D E:Blk),(HC s++[A])++Blk.row 24 1 ((List.range h.ms.length).map fun m=>[.rg ((HC s++[A]).length+1+[C,D,E].length+m) 0 0]) false::([C,D,E]++(List.range h.ms.length).map fun _=> .rg 3 1 [] 0)=
   HC s++(A:: .row 24 1 ((List.range h.ms.length).map (rowE b (List.replicate h.ms.length []) fun _=>0)) false::C::D::E::(List.range h.ms.length).map (rgE (List.replicate h.ms.length []) (fun _=>[]) fun _=>0)):=by
  intro A C D E
  have e1:(fun m=>[AV.rg ((HC s++[A]).length+1+[C,D,E].length+m) 0 0])=rowE b (List.replicate h.ms.length []) fun _=>0:=by
   funext m
   simp only[rowE,rep_getD,length_append,hlen,length_cons,length_nil]
   congr 2;omega
  have e2:(fun _=>Blk.rg 3 1 [] 0)=rgE (List.replicate h.ms.length []) (fun _=>[]) fun _=>0:=by
   funext m
   simp only[rgE,rep_getD,append_nil,map_nil]
  rw[e1,e2];simp
 rw[e]
 unfold ownP at h94
 rw[bs_nil]at h94
 refine h94.mono ?_
 rintro r H' ⟨j',g',rfl,rfl,_⟩
 repeat' first|refine sP ?_ ?_<;>intro hb<;>(try rw[hb])<;>(try simp only[bb]at hb)<;>(try simp only[within]at hb)<;>try simp only[go_sem]|refine aI ?_|simp only[go_sem]
 exact⟨_,rfl⟩
theorem runC_al{σ α:Type}(st:σ→α→σ×Bool): ∀(L:List α) (s:σ),runC (fun(x:σ×Bool) a=>(((st x.1 a).1,(st x.1 a).2),(st x.1 a).2)) (s,true) L=((runC st s L),(runC st s L).2)
 |[],s=>rfl
 |a::L,s=>by
  simp only[runC]
  split
  ·rename_i h
   rw[←runC_al st L];rw[h]
  ·rename_i h
   have:(st s a).2=false:=by simpa using h
   rw[this]
theorem c93L{σ:Type}(h:House)(hk:okG h)(b l:Nat)(stop:Int)(nt0:Nat)(ps:Array Tmp)(assign body:Code)(env0:Env)(HC0:σ→Heap)(cd:σ→Code)(st:σ→List (List Int)→σ×Bool)(hlen: ∀s,(HC0 s).length+1=b)
  (hy: ∀s p j g LB,LB= .loop l nt0 ps assign body env0→okQ h.ms.length h.bs.length p→HCY prog l [.row (b+1) h.ms.length,.agg ((rdy h (tim h p)).map I)] (HC0 s++LB::ownP b l h stop p j g) fun r H2=>r= .bool (st s p).2∧H2=HC0 (st s p).1++(if(st s p).2=true then LB else .lpe l (cd (st s p).1))::ownP b l h stop p j g) (s:σ):
  HCH prog 197 [.yld l,.pp (cG h),.pp [.int .i64 stop]] (HC0 s++[.loop l nt0 ps assign body env0]) fun r H'=> ∃rest,H'=HC0 (runC st s (plansG h stop)).1++(if(runC st s (plansG h stop)).2=true then .loop l nt0 ps assign body env0 else .lpe l (cd (runC st s (plansG h stop)).1))::rest:=by
 have hc:Cons (σ×Bool) h b l stop (fun x=>HC0 x.1++[if x.2=true then .loop l nt0 ps assign body env0 else .lpe l (cd x.1)]) (fun x=>x.2=true) (fun x a=>(((st x.1 a).1,(st x.1 a).2),(st x.1 a).2)):=by
  refine⟨fun x=>by have:=hlen x.1;simpa using this,fun x p _ _ h=>h,fun x p j g ha hq=>?_⟩
  obtain⟨s,a⟩:=x
  have ha:a=true:=ha
  subst ha
  have:=hy s p j g _ rfl hq
  simp only[append_assoc,cons_append,nil_append,if_true]
  exact this
 have:=c197 h hk b l stop _ _ _ hc (s,true) rfl
 refine(this.mono ?_)
 rintro r H' ⟨rest,rfl⟩
 rw[runC_al]
 exact⟨rest,by simp⟩
def sZ06h_f176:Nat→List (Nat×Nat)
 |11=>[(0,2),(0,0),(0,0),(0,0),(0,0),(0,0)]
 |14=>[(0,0),(0,1),(0,0),(0,0)]
 |_=>[]
attribute [go_sem] sZ06h_f176
theorem h69(l:List Int)(hl:l.length≤1000):HCH prog 69 [lN l] [] fun r H'=>r= .row 0 l.length∧H'=[.row 3 1 (l.map encN) false]:=by
 refine HCH.bodyN Tryz.func69 (by kernel_rfl) rfl (by simp[Tryz.f69]) ?_
 simp only[Tryz.f69]
 refine CV.run ?_
 repeat' first|refine sP ?_ ?_<;>intro hb<;>(try rw[hb])<;>(try simp only[bb]at hb)<;>(try simp only[within]at hb)<;>try simp only[go_sem]|refine aI ?_|simp only[go_sem]
 ·have:l=[]:=by simpa using hb
  subst this
  exact⟨_,.nilE 2 3 1 (by(simp only[go_sem])) (by omega) (.base (wk_same (env':=[(2,.row 0 0)]) (by(simp only[go_sem])))),rfl,rfl⟩
 ·exact⟨⟨by omega,by omega,.inl trivial⟩,_,.base (wk_same (env':=[(2,.row 0 l.length)]) (by(simp only[go_sem]))),rfl,rfl⟩
def lateN(h:House)(p:List (List Int)):Int:=pop (ltG h (rdy h (tim h p)))
noncomputable def bst(h:House)(s:List (List Int)×Int)(p:List (List Int)):(List (List Int)×Int)×Bool:=
 if lateN h p<s.2 then((p,lateN h p),decide (lateN h p≠0))else(s,decide (s.2≠0))
noncomputable def bestG(h:House)(stop:Int):List (List Int)×Int:=(runC (bst h) ([],h.ts.length+1) (plansG h stop)).1
theorem tg0{f:Nat→Blk}{k:Nat}{l:Heap}:((List.range k).map f++l)[k]? =l[0]? :=by
 rw[List.getElem?_append_right (by simp)];simp
theorem tg1{f:Nat→Blk}{k:Nat}{l:Heap}:((List.range k).map f++l)[k+1]? =l[1]? :=by
 rw[List.getElem?_append_right (by simp)];simp
theorem ts0{f:Nat→Blk}{k:Nat}{l:Heap}{v:Blk}:((List.range k).map f++l).set k v=(List.range k).map f++l.set 0 v:=by
 rw[List.set_append_right _ _ (by simp)];simp
theorem ts1{f:Nat→Blk}{k:Nat}{l:Heap}{v:Blk}:((List.range k).map f++l).set (k+1) v=(List.range k).map f++l.set 1 v:=by
 rw[List.set_append_right _ _ (by simp)];simp
theorem pfx_app: ∀{a l:Heap},pfx a (a++l)=True
 |[],l=>by simp[pfx]
 |x::a,l=>by simp[pfx,pfx_app (a:=a)]
theorem belowB_rowE{n b k:Nat}{p:List (List Int)}{g:Nat→Nat}{sl:Bool}(hn:b+5+k≤n):belowB n (.row 24 1 ((List.range k).map (rowE b p g)) sl)=True:=by
 refine eq_true fun e he=>?_
 obtain⟨m,hm,rfl⟩:=List.mem_map.1 he
 have:=List.mem_range.1 hm
 simp[rowE,belowL,belowV];omega
theorem belowB_rgE{n:Nat}{p:List (List Int)}{j:Nat→List Int}{g:Nat→Nat}{m:Nat}:belowB n (rgE p j g m):=fun e he=>belowL_pure n _ ((show pureE (List.map encN _) by rw[pureN];trivial) e he)
theorem belowB_gone{n:Nat}:belowB n .gone=True:=rfl
theorem belowH_all{n:Nat}: ∀{H:Heap},(∀x∈H,belowB n x)→belowH n H
 |[],_=>trivial
 |x::H,h=>⟨h x (by simp),belowH_all fun y hy=>h y (by simp[hy])⟩
theorem belowH_rgE{n k:Nat}{p:List (List Int)}{j:Nat→List Int}{g:Nat→Nat}:belowH n ((List.range k).map (rgE p j g))=True:=by
 refine eq_true (belowH_all fun x hx=>?_)
 obtain⟨m,_,rfl⟩:=List.mem_map.1 hx
 exact belowB_rgE
theorem sub_rowE{c n b k:Nat}{v:AV}{p:List (List Int)}{g:Nat→Nat}:((List.range k).map (rowE b p g)).map (subL c n v)=(List.range k).map (rowE b p g):=by
 rw[map_map];exact List.map_congr_left fun m _=>by simp[rowE,subL,subV]
theorem sub_rgE{c n k:Nat}{v:AV}{p:List (List Int)}{j:Nat→List Int}{g:Nat→Nat}:((List.range k).map (rgE p j g)).map (subB c n v)=(List.range k).map (rgE p j g):=by
 rw[map_map];exact List.map_congr_left fun m _=>by simp only[Function.comp,rgE,subB,sub_mapN]
theorem take_succ{α:Type}{l:List α}{j:Nat}{a:α}(h:l[j]? =some a):l.take (j+1)=l.take j++[a]:=by
 rw[List.take_add_one,h];rfl
theorem wk_eq{m:Nat}{env env':Env}{H H':Heap}(hH:H=H')(h:subE env env'):Wk m ⟨env,H⟩ ⟨env',H'⟩:=by subst hH;exact wk_same h
theorem pop_bd{x:Int}(h0:0≤x)(h1:x<16):0≤pop x∧pop x≤4:=by unfold pop;omega
theorem lt_bd{h:House}(hk:okG h)(R:List Int):0≤ltG h R∧ltG h R<16:=by
 obtain⟨k1,k2,k3,k4,k5,k6,k7,k8⟩:=hk
 have h1:=ltM_bd h R h.ts.length
 have h2:=pow_bd k3
 unfold ltG
 omega
set_option maxHeartbeats 4000000 in
theorem c176(h:House)(hk:okG h)(stop:Int):PC prog 176 [hG h,.int .i64 stop] (.tup [lP (bestG h stop).1,.int .i64 (bestG h stop).2]):=by
 obtain⟨k1,k2,k3,k4,k5,k6,k7,k8⟩:=id hk
 refine pB Tryz.func176 fun hlen=>CV.run ?_
 simp only[Tryz.f176]
 simp only[go_sem,length_map,and_true,true_and]at hlen
 repeat' first|refine sP ?_ ?_<;>intro hb<;>(try rw[hb])<;>(try simp only[bb]at hb)<;>(try simp only[within]at hb)<;>try simp only[go_sem]|refine aI ?_|with_reducible refine dw sZ06h_f176 ?_|with_reducible refine cq (c179 h stop) ?_|simp only[go_sem]
 refine vc_wn vc_range_eq (st':=⟨[(17,.fn 197 [.pp (cG h),.pp [.int .i64 stop]]),(2,.lp 0 0),(4,.lp 1 0),(5,.lp 2 0)],[.box 26 (cG h) false,.box 27 [lP []] false,.box 3 [.int .i64 (h.ts.length+1)] false]⟩) (.nilL 1 0 1 rfl rfl (.base (by exact w0))) ?_
 refine CV.rangeG rfl (Nat.zero_le _) (fun l=>?_)
 refine(c93L h hk 4 l stop _ _ _ _ _ (fun s=>[.box 26 (cG h) false,.box 27 [lP s.1] false,.box 3 [.int .i64 s.2] false]) (fun _=> .exit 0) (bst h) (fun _=>rfl) (fun s p j g LB hLB hq=>?_) ([],h.ts.length+1)).mono ?_
 ·refine HCY.bodyL (n:=3) hLB rfl rfl (by simp) ?_
  have h73:=c158 h hk (rdy h (tim h p)) (rdy_len _ _)
  obtain⟨l0,l1⟩:=lt_bd hk (rdy h (tim h p))
  have h72:=c195 _ l0 l1
  have htk:List.take 4 (List.map I (rdy h (tim h p)))=List.map I (rdy h (tim h p)):=List.take_of_length_le (by simp[rdy_len])
  clear hLB
  have hbr:belowB (h.ms.length+9) (.row 24 1 ((List.range h.ms.length).map (rowE 4 p g)) false)=True:=belowB_rowE (by omega)
  have hltk: ∀c:Nat,c<9→(c<h.ms.length+9)=True:=fun c hc=>eq_true (by omega)
  repeat' first|refine sP ?_ ?_<;>intro hb<;>(try rw[hb])<;>(try simp only[bb]at hb)<;>(try simp only[within]at hb)<;>try simp only[go_sem,putPs,cons_append,nil_append,allOne_mapI,rdy_len,length_map,length_range,tg0,tg1,ts0,ts1,htk,List.drop_succ_cons,List.drop_zero,append_assoc,append_nil]|refine aI ?_|with_reducible refine dw sZ06h_f176 ?_|with_reducible refine cq h73 ?_|with_reducible refine cq h72 ?_|simp only[go_sem,putPs,cons_append,nil_append,allOne_mapI,rdy_len,length_map,length_range,tg0,tg1,ts0,ts1,htk,List.drop_succ_cons,List.drop_zero,append_assoc,append_nil]
  ·refine vc_fw (fun i=>⟨[(30,.int .i64 i),(29,.int .i64 h.ms.length),(28,.row 5 h.ms.length),(4,.lp 1 0),(5,.lp 2 0)],.box 26 (cG h) false:: .box 27 [.row (h.ms.length+10) i] false:: .box 3 [.int .i64 (lateN h p)] false:: .gone:: .box 271 [.yld l] false:: .row 24 1 ((List.range h.ms.length).map (rowE 4 p g)) false:: .box 27 [.row 5 h.ms.length] false:: .box 3 [.int .i64 (bs (usd p) 5)] false:: .box 162 [.fn 198 (capsP 4 h stop)] false::((List.range h.ms.length).map (rgE p j g)++[.box 227 ((rdy h (tim h p)).map I) false,.row 24 1 ((p.take i).map encP) false])⟩) h.ms.length (fun _=>True) (.nilB 1 0 24 1 rfl rfl (by omega) (.base (wk_eq (by(simp only[go_sem,Nat.add_assoc,lateN,List.take_zero,length_append,append_assoc,length_map,length_range])) (by(simp only[go_sem]))))) trivial ?_
   intro i hi _
   rcases Nat.lt_or_ge i h.ms.length with hlt|hge
   ·have hlt':(i:Int)<h.ms.length:=by omega
    have hri:=rng_get hlt
    obtain⟨li,hli⟩:=get_of (l:=p) (j:=i) (by rw[hq.len];exact hlt)
    have hll:=hq.short (List.mem_of_getElem? hli)
    have htl:((p.take i).map encP).length=i:=by rw[length_map,List.length_take,hq.len];omega
    repeat' first|refine sP ?_ ?_<;>intro hb<;>(try rw[hb])<;>(try simp only[bb]at hb)<;>(try simp only[within]at hb)<;>try simp only[go_sem,hlt',hri,hli,htl,Nat.add_assoc,tg0,tg1,ts0,ts1,length_range]|refine aI ?_|with_reducible refine dw sZ06h_f176 ?_|simp only[go_sem,hlt',hri,hli,htl,Nat.add_assoc,tg0,tg1,ts0,ts1,length_range]
    have hget: ∀(a b c d e f g' m n:Blk) (tl:Heap),(a::b::c::d::e::f::g'::m::n::((List.range h.ms.length).map (rgE p j g)++tl))[4+(i+5)]? =some (rgE p j g i):=by
     intros
     rw[show 4+(i+5)=i+9 by omega]
     simp only[List.getElem?_cons_succ]
     rw[List.getElem?_append_left (by simpa using hlt),List.getElem?_map,hri];rfl
    refine dCallC_here (append_nil _).symm ((h69 li (by omega)).cloneL ⟨⟨rfl,?_⟩,rfl⟩) ?_
    ·rw[hget]
     refine⟨rfl,rfl,?_⟩
     have:p.getD i []=li:=by simp[hli]
     rw[this,map_append,take_left' (by simp)]
     exact frzE_self _ _ (by rw[pureN];trivial)
    have etk:=take_succ hli
    repeat' first|refine sP ?_ ?_<;>intro hb<;>(try rw[hb])<;>(try simp only[bb]at hb)<;>(try simp only[within]at hb)<;>try simp only[go_sem,hlt',hri,hli,htl,Nat.add_assoc,tg0,tg1,ts0,ts1,length_range]|refine aI ?_|with_reducible refine dw sZ06h_f176 ?_|simp only[go_sem,hlt',hri,hli,htl,Nat.add_assoc,tg0,tg1,ts0,ts1,length_range]
    exact .base (wk_eq (by(simp only[go_sem,etk,map_append,encP])) (by(simp only[go_sem,Int.natCast_add,cn])))
   ·have hge': ¬(i:Int)<h.ms.length:=by omega
    have:i=h.ms.length:=by omega
    subst this
    have htp:p.take h.ms.length=p:=by rw[←hq.len];exact List.take_length
    have hn5:(5=h.ms.length+10)=False:=eq_false (by omega)
    have hpl:(p.map encP).length=h.ms.length:=by rw[length_map,hq.len]
    have hgr: ∀(a b c d e f g' m n o:Blk),(a::b::c::d::e::f::g'::m::n::((List.range h.ms.length).map (rgE p j g)++[o,.row 24 1 (p.map encP) false]))[h.ms.length+10]? =some (.row 24 1 (p.map encP) false):=by
     intros
     simp only[List.getElem?_cons_succ]
     rw[tg1];rfl
    repeat' first|refine sP ?_ ?_<;>intro hb<;>(try rw[hb])<;>(try simp only[bb]at hb)<;>(try simp only[within]at hb)<;>try simp only[go_sem,hge',htp,Nat.add_assoc,length_range]|refine aI ?_|with_reducible refine dw sZ06h_f176 ?_|simp only[go_sem,hge',htp,Nat.add_assoc,length_range]
    ·have e1:bst h s p=((p,lateN h p),false):=by unfold bst;rw[if_pos (by assumption),decide_eq_false (by simpa using hb)]
     refine RBL.ex (.box 26 (cG h) false:: .box 27 [lP p] false:: .box 3 [.int .i64 (lateN h p)] false:: .gone::ownP 4 l h stop p j g) (.take (h.ms.length+10) (hgr _ _ _ _ _ _ _ _ _ _) (by rw[pureP];trivial) (.base ?_)) rfl ?_
     ·refine wk_drop (by(simp only[go_sem])) ?_ ?_ ?_ ?_<;>(try unfold sealH)<;>(simp only[go_sem,ts1,pfx_app,pfx,belowH,hbr,hltk,belowB_gone,belowH_rgE,Nat.add_assoc,length_map,length_range,hpl,hn5,map_cons,map_append,map_nil,subB,subL,subV,sub_rowE,sub_rgE,false_and,if_false])
     ·rw[e1];exact⟨rfl,rfl⟩
    ·have e1:bst h s p=((p,lateN h p),true):=by unfold bst;rw[if_pos (by assumption),decide_eq_true (by simpa using hb)]
     refine RBL.nm (.box 26 (cG h) false:: .box 27 [lP p] false:: .box 3 [.int .i64 (lateN h p)] false:: .gone::ownP 4 l h stop p j g) (.take (h.ms.length+10) (hgr _ _ _ _ _ _ _ _ _ _) (by rw[pureP];trivial) (.base ?_)) rfl ?_
     ·refine wk_drop (by(simp only[go_sem])) ?_ ?_ ?_ ?_<;>(try unfold sealH)<;>(simp only[go_sem,ts1,pfx_app,pfx,belowH,hbr,hltk,belowB_gone,belowH_rgE,Nat.add_assoc,length_map,length_range,hpl,hn5,map_cons,map_append,map_nil,subB,subL,subV,sub_rowE,sub_rgE,false_and,if_false])
     ·rw[e1];exact⟨rfl,rfl⟩
  ·have e1:bst h s p=(s,false):=by unfold bst lateN;rw[if_neg (by assumption),decide_eq_false (by simpa using hb)]
   refine RBL.ex (.box 26 (cG h) false:: .box 27 [lP s.1] false:: .box 3 [.int .i64 s.2] false:: .gone::ownP 4 l h stop p j g) (.base (by(first|exact wk_same (by simp only[go_sem,ic,pfx_app,pfx,belowH,hbr,hltk,belowB_gone,belowH_rgE,Nat.add_assoc,length_map,length_range])|(refine wk_drop ?_ ?_ ?_ ?_ ?_<;>simp only[go_sem,ic,pfx_app,pfx,belowH,hbr,hltk,belowB_gone,belowH_rgE,Nat.add_assoc,length_map,length_range])))) rfl ?_
   rw[e1];exact⟨rfl,rfl⟩
  ·have e1:bst h s p=(s,true):=by unfold bst lateN;rw[if_neg (by assumption),decide_eq_true (by simpa using hb)]
   refine RBL.nm (.box 26 (cG h) false:: .box 27 [lP s.1] false:: .box 3 [.int .i64 s.2] false:: .gone::ownP 4 l h stop p j g) (.base (by(first|exact wk_same (by simp only[go_sem,ic,pfx_app,pfx,belowH,hbr,hltk,belowB_gone,belowH_rgE,Nat.add_assoc,length_map,length_range])|(refine wk_drop ?_ ?_ ?_ ?_ ?_<;>simp only[go_sem,ic,pfx_app,pfx,belowH,hbr,hltk,belowB_gone,belowH_rgE,Nat.add_assoc,length_map,length_range])))) rfl ?_
   rw[e1];exact⟨rfl,rfl⟩
 ·rintro r H' ⟨rest,rfl⟩
  refine⟨_,_,rest,rfl,rfl,by(simp only[go_sem]),by(simp only[go_sem]),?_⟩
  have e:bestG h stop=(runC (bst h) ([],(h.ts.length:Int)+1) (plansG h stop)).1:=rfl
  rw[←e]
  cases hR:(runC (bst h) ([],(h.ts.length:Int)+1) (plansG h stop)).2 with
  |true=>
   rw[if_pos rfl]
   refine .inl ⟨rfl,?_⟩
   repeat' first|refine sP ?_ ?_<;>intro hb<;>(try rw[hb])<;>(try simp only[bb]at hb)<;>(try simp only[within]at hb)<;>try simp only[go_sem]|refine aI ?_|with_reducible refine dw sZ06h_f176 ?_|simp only[go_sem]
  |false=>
   rw[if_neg (by simp)]
   refine .inr ⟨_,rfl,?_⟩
   repeat' first|refine sP ?_ ?_<;>intro hb<;>(try rw[hb])<;>(try simp only[bb]at hb)<;>(try simp only[within]at hb)<;>try simp only[go_sem]|refine aI ?_|with_reducible refine dw sZ06h_f176 ?_|simp only[go_sem]
theorem vcY_is{P:Program}{nt m:Nat}{R:Exit→St→Prop}{k:List Iv}{dst:Option Nat}{rest:List COp}{env:Env}{H H':Heap}{l:Nat}{args:List AV}{v:AV}(hy:HCY P l args H fun r H2=>r=v∧H2=H')(h:vc P nt m R (.ops rest::k) ⟨eput env dst v,H'⟩):vcY P nt m R l args dst rest k ⟨env,H⟩:=
 vcY_of (hy.mono fun r H2 ⟨e1,e2⟩=>by rw[e1,e2];exact h)
noncomputable def fewG(h:House):AV:=if okG h then .tup [.int .i64 (bestG h (-1)).2,.int .i64 0]else .tup [.int .i64 0,.int .i64 40]
theorem c128(h:House):PC prog 128 [hG h] (fewG h):=by
 unfold fewG
 by_cases hk:okG h
 ·rw[if_pos hk]
  have h37:=c55 h
  rw[show checkG h=0 from if_pos hk]at h37
  refine pB Tryz.func128 fun hlen=>CV.run ?_
  simp only[Tryz.f128]
  simp only[go_sem,length_map,and_true,true_and]at hlen
  repeat' first|refine sP ?_ ?_<;>intro hb<;>(try rw[hb])<;>(try simp only[bb]at hb)<;>(try simp only[within]at hb)<;>try simp only[go_sem]|refine aI ?_|with_reducible refine cq h37 ?_|with_reducible refine cq (c176 h hk (-1)) ?_|simp only[go_sem]
 ·rw[if_neg hk]
  have h37:=c55 h
  rw[show checkG h=40 from if_neg hk]at h37
  refine pB Tryz.func128 fun hlen=>CV.run ?_
  simp only[Tryz.f128]
  simp only[go_sem,length_map,and_true,true_and]at hlen
  repeat' first|refine sP ?_ ?_<;>intro hb<;>(try rw[hb])<;>(try simp only[bb]at hb)<;>(try simp only[within]at hb)<;>try simp only[go_sem]|refine aI ?_|with_reducible refine cq h37 ?_|simp only[go_sem]
def caseF:List Mach→Nat→List Int
 |[],_=>[]
 |m::ms,i=>(if m.stops=1 then [(i:Int)]else [])++caseF ms (i+1)
def casesG(h:House):List Int:= -1::caseF h.ms 0
theorem c178(h:House):PC prog 178 [hG h] (.fn 196 [.pp (cG h)]):=by
 refine pB Tryz.func178 fun hlen=>CV.run ?_
 simp only[Tryz.f178]
 simp only[go_sem,length_map,and_true,true_and]at hlen
 repeat' first|refine sP ?_ ?_<;>intro hb<;>(try rw[hb])<;>(try simp only[bb]at hb)<;>(try simp only[within]at hb)<;>try simp only[go_sem]|refine aI ?_|simp only[go_sem]
set_option maxHeartbeats 2000000 in
theorem c196{σ:Type}(h:House)(hk:okG h)(b l:Nat)(HC:σ→Heap)(al:σ→Prop)(st:σ→Int→σ×Bool)(hlen: ∀s,(HC s).length=b)(hbel: ∀s,belowH b (HC s))(hgo: ∀s n,al s→(st s n).2=true→al (st s n).1)
  (hy: ∀s n own,al s→(own=[]∨ ∃m,own=[.box 110 (encM m) false])→HCY prog l [.int .i64 n] (HC s++own) fun r H2=>r= .bool (st s n).2∧H2=HC (st s n).1++own) (s:σ) (hal:al s):
  HCH prog 196 [.yld l,.pp (cG h)] (HC s) fun r H'=> ∃rest,H'=HC (runC st s (casesG h)).1++rest:=by
 obtain⟨k1,k2,_⟩:=id hk
 have ga1: ∀(s:σ) (own:Heap) (i:Nat),(HC s++own)[b+i]? =own[i]? :=fun s own i=>ga (hlen s) i
 have ga2: ∀(s:σ) (own:Heap),(HC s++own)[b]? =own[0]? :=fun s own=>ga0 (hlen s)
 have sa2: ∀(s:σ) (own:Heap) (v:Blk),(HC s++own).set b v=HC s++own.set 0 v:=fun s own v=>sa (i:=0) (hlen s) v
 refine HCH.body Tryz.func196 (by kernel_rfl) rfl (by simp[Tryz.f196]) ?_
 simp only[Tryz.f196]
 refine CV.run ?_
 have y1:=hy s (-1) [] hal (.inl rfl)
 rw[append_nil]at y1
 repeat' first|refine sP ?_ ?_<;>intro hb<;>(try rw[hb])<;>(try simp only[bb]at hb)<;>(try simp only[within]at hb)<;>try simp only[go_sem]|refine aI ?_|simp only[go_sem]
 refine vcY_is y1 ?_
 cases hR:(st s (-1)).2 with
 |false=>
  repeat' first|refine sP ?_ ?_<;>intro hb<;>(try rw[hb])<;>(try simp only[bb]at hb)<;>(try simp only[within]at hb)<;>try simp only[go_sem]|refine aI ?_|simp only[go_sem]
  refine⟨[],?_⟩
  simp[casesG,runC,hR]
 |true=>
  repeat' first|refine sP ?_ ?_<;>intro hb<;>(try rw[hb])<;>(try simp only[bb]at hb)<;>(try simp only[within]at hb)<;>try simp only[go_sem]|refine aI ?_|simp only[go_sem]
  refine vc_fx (fun i (s1:σ)=>⟨[(11,.int .i64 i),(10,.int .i64 h.ms.length),(9,.lst false 3 (h.ms.map encM)),(0,.yld l)],HC s1⟩) h.ms.length (fun i s1=>runC st s (casesG h)=runC st s1 (caseF (h.ms.drop i) i)∧al s1) (st s (-1)).1 (.base (by exact w0)) ⟨by simp[casesG,runC,hR],hgo _ _ hal hR⟩ ?_
  intro i s1 hi ⟨x1,x2⟩
  rcases Nat.lt_or_ge i h.ms.length with hlt|hge
  ·obtain⟨m,hm⟩:=get_of hlt
   have hlt':(i:Int)<h.ms.length:=by omega
   rw[drop_cons' hm,caseF]at x1
   by_cases hs:m.stops=1
   ·rw[if_pos hs]at x1
    repeat' first|refine sP ?_ ?_<;>intro hb<;>(try rw[hb])<;>(try simp only[bb]at hb)<;>(try simp only[within]at hb)<;>try simp only[go_sem,hlt',hm,encM,hlen,ga1,ga2,sa2,hs,length_append]|refine aI ?_|simp only[go_sem,hlt',hm,encM,hlen,ga1,ga2,sa2,hs,length_append]
    refine vcY_is (hy s1 i _ x2 (.inr ⟨m,by simp only[encM,hs]⟩)) ?_
    cases hR2:(st s1 i).2 with
    |false=>
     repeat' first|refine sP ?_ ?_<;>intro hb<;>(try rw[hb])<;>(try simp only[bb]at hb)<;>(try simp only[within]at hb)<;>try simp only[go_sem]|refine aI ?_|simp only[go_sem]
     exact⟨[.box 110 [.int .i64 m.ready,.int .i64 m.pace,.int .i64 1] false],by rw[x1];simp[runC,hR2]⟩
    |true=>
     repeat' first|refine sP ?_ ?_<;>intro hb<;>(try rw[hb])<;>(try simp only[bb]at hb)<;>(try simp only[within]at hb)<;>try simp only[go_sem]|refine aI ?_|simp only[go_sem]
     refine⟨(st s1 i).1,hlt,.base ?_,?_,hgo _ _ x2 hR2⟩
     ·(first|exact wk_same (by simp only[go_sem,ic,pfx_app,hlen,hbel])|(refine wk_drop ?_ ?_ ?_ ?_ ?_<;>simp only[go_sem,ic,pfx_app,hlen,hbel]))
     ·rw[x1];simp only[cons_append,nil_append,runC,hR2,if_true]
   ·rw[if_neg hs,nil_append]at x1
    repeat' first|refine sP ?_ ?_<;>intro hb<;>(try rw[hb])<;>(try simp only[bb]at hb)<;>(try simp only[within]at hb)<;>try simp only[go_sem,hlt',hm,encM,hlen,ga1,ga2,sa2,hs,length_append]|refine aI ?_|simp only[go_sem,hlt',hm,encM,hlen,ga1,ga2,sa2,hs,length_append]
    refine⟨s1,hlt,.base ?_,x1,x2⟩
    (first|exact wk_same (by simp only[go_sem,ic,pfx_app,hlen,hbel])|(refine wk_drop ?_ ?_ ?_ ?_ ?_<;>simp only[go_sem,ic,pfx_app,hlen,hbel]))
  ·have hge': ¬(i:Int)<h.ms.length:=by omega
   have:i=h.ms.length:=by omega
   subst this
   repeat' first|refine sP ?_ ?_<;>intro hb<;>(try rw[hb])<;>(try simp only[bb]at hb)<;>(try simp only[within]at hb)<;>try simp only[go_sem,hge']|refine aI ?_|simp only[go_sem,hge']
   rw[x1,List.drop_length]
   exact⟨[],by simp[caseF,runC]⟩
end Go.Proofs.YtoadkchhimojlaaGreatDoor.T4
