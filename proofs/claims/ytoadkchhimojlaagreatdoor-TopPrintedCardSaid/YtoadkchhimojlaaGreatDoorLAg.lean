/- Contracts of functions of the given program, without a condition beyond those that each theorem states; they lead to the given statement. -/
import Derived.Test.YtoadkchhimojlaaGreatDoorLAf
set_option linter.unusedSectionVars false
set_option linter.unusedSimpArgs false
set_option linter.unusedVariables false
set_option maxRecDepth 100000
open List(append_nil length_append length_map map_append map_nil mem_of_getElem?)
open Go.Proofs.Tryz(prog)
namespace Go.Proofs.YtoadkchhimojlaaGreatDoor
open Go Go.Fl
open Classical
structure seenN(F:List (List Int×Int))(seen:List Nat)(j:Nat):Prop where
 len:seen.length=j
 nd:seen.Nodup
 lt: ∀x,x∈seen→x<F.length
theorem seenN.nil(F:List (List Int×Int)):seenN F [] 0:=⟨rfl,List.nodup_nil,fun x h=>by cases h⟩
theorem seenN.add{F:List (List Int×Int)}{seen:List Nat}{j i:Nat}{e:List Int×Int}(h:seenN F seen j)(he:F[i]? =some e)(hi:i∉seen):seenN F (seen++[i]) (j+1):=by
 refine⟨by simp[h.len],?_,fun x hx=>?_⟩
 ·rw[List.nodup_append]
  exact⟨h.nd,by simp,fun a ha b hb=>by rw[List.mem_singleton.1 hb];exact fun e=>hi (e▸ha)⟩
 ·rcases List.mem_append.1 hx with hx|hx
  ·exact h.lt x hx
  ·rw[List.mem_singleton.1 hx];exact(List.getElem?_eq_some_iff.1 he).1
theorem seenN.le{F:List (List Int×Int)}{seen:List Nat}{j:Nat}(h:seenN F seen j):j≤F.length:=by
 rw[←h.len];exact nodup_lt h.nd h.lt
structure keptN(F:List (List Int×Int))(seen:List Nat)(out:List (List Int)):Prop where
 len:out.length≤seen.length
 mem: ∀s,s∈out↔ ∃i e,i∈seen∧F[i]? =some e∧e.1=s∧isMin (keysF F) s
theorem keptN.nil(F:List (List Int×Int)):keptN F [] []:=⟨Nat.le_refl _,fun s=>by simp⟩
theorem keptN.yes{F:List (List Int×Int)}{seen:List Nat}{out:List (List Int)}{i:Nat}{e:List Int×Int}(h:keptN F seen out)(he:F[i]? =some e)(hm:isMin (keysF F) e.1):keptN F (seen++[i]) (out++[e.1]):=by
 refine⟨by have:=h.len;simp;omega,fun s=>?_⟩
 rw[List.mem_append,List.mem_singleton,h.mem]
 constructor
 ·rintro(⟨j,e',h1,h2⟩|rfl)
  ·exact⟨j,e',by simp[h1],h2⟩
  ·exact⟨i,e,by simp,he,rfl,hm⟩
 ·rintro⟨j,e',h1,h2,h3,h4⟩
  rcases List.mem_append.1 h1 with h1|h1
  ·exact .inl ⟨j,e',h1,h2,h3,h4⟩
  ·rw[List.mem_singleton.1 h1,he]at h2
   cases h2;exact .inr h3.symm
theorem keptN.no{F:List (List Int×Int)}{seen:List Nat}{out:List (List Int)}{i:Nat}{e:List Int×Int}(h:keptN F seen out)(he:F[i]? =some e)(hm: ¬isMin (keysF F) e.1):keptN F (seen++[i]) out:=by
 refine⟨by have:=h.len;simp;omega,fun s=>?_⟩
 rw[h.mem]
 constructor
 ·rintro⟨j,e',h1,h2⟩
  exact⟨j,e',by simp[h1],h2⟩
 ·rintro⟨j,e',h1,h2,h3,h4⟩
  rcases List.mem_append.1 h1 with h1|h1
  ·exact⟨j,e',h1,h2,h3,h4⟩
  ·rw[List.mem_singleton.1 h1,he]at h2
   cases h2;subst h3;exact absurd h4 hm
theorem keptN.good{F:List (List Int×Int)}{seen:List Nat}{out:List (List Int)}(h:keptN F seen out)(hall: ∀j,j<F.length→j∈seen):goodN (keysF F) out:=by
 intro s
 rw[h.mem]
 unfold keysF
 constructor
 ·rintro⟨i,e,_,h2,h3,h4⟩
  exact⟨List.mem_map.2 ⟨e,mem_of_getElem? h2,h3⟩,h4⟩
 ·rintro⟨h1,h2⟩
  obtain⟨e,h3,h4⟩:=List.mem_map.1 h1
  obtain⟨i,hi⟩:=List.mem_iff_getElem?.1 h3
  exact⟨i,e,hall i (List.getElem?_eq_some_iff.1 hi).1,hi,h4,h2⟩
theorem vc_raw_ne{P:Program}{nt m:Nat}{R:Exit→St→Prop}{k:List Iv}{st:St}{c:Code}(b b':Nat){g g':Nat}{o o':Rk}(h1:st.H[b]? =some (.raw g o))(h2:st.H[b']? =some (.raw g' o'))(hne:b≠b')
  (h:g≠g'→vc P nt m R (.code (.loop c)::k) st):vc P nt m R (.code (.loop c)::k) st:=by
 rw[vc_loop_eq]at h ⊢
 refine CV.mk fun k' hr=>?_
 intro F E a w hF hE hg
 obtain⟨κ,e1,e2,e3,e4⟩:=id hg
 have hgg:g≠g':=fun e=>by
  rw[←e2]at h1 h2
  obtain⟨p1,p2,_⟩:=e3.blk _ _ h1
  obtain⟨q1,q2,_⟩:=e3.blk _ _ h2
  exact hne (e3.inj b b' (List.getElem?_eq_some_iff.1 h1).1 (List.getElem?_eq_some_iff.1 h2).1 p1 q1 (by rw[p2,q2,e]))
 exact(h hgg).of k' hr F E a w hF hE hg
theorem addF_len(F:List (List Int×Int))(k:List Int):(addF F k).length≤F.length+1:=by
 unfold addF stR upR
 rw[List.length_modify]
 split<;>simp
theorem foundN_len(a:Hall)(stop:Int):(foundN a stop).length≤(plansG a.hs stop).length:=by
 unfold foundN
 have: ∀(L:List (List (List Int))) (F:List (List Int×Int)),(L.foldl (stN a) F).length≤F.length+L.length:=by
  intro L
  induction L with
  |nil=>intro F;simp
  |cons p L ih=>
   intro F
   have h1:=ih (stN a F p)
   have h2:(stN a F p).length≤F.length+1:=by
    unfold stN
    split
    ·exact addF_len F _
    ·omega
   rw[List.foldl_cons,List.length_cons];omega
 have:=this (plansG a.hs stop) []
 simpa using this
theorem belowB_raw{n g:Nat}{k:Rk}:belowB n (.raw g k)=True:=rfl
attribute [go_sem] belowB_raw
theorem mapIe(l:List Int):List.map (AV.int IntKind.i64) l=l.map I:=rfl
theorem lastSeen(l:List Nat)(i:Nat):(l++[i]).getLast? =some i:=by simp
set_option maxHeartbeats 16000000 in
theorem c42(a:Hall)(ha:okH a)(h3:a.hs.bs.length≤3)(stop:Int):PC prog 42 [hH a,.int .i64 stop] (.alt ((altN a stop).map lK)):=by
 obtain⟨hk,b1,b2,b3,b4,b5⟩:=id ha
 obtain⟨k1,k2,k3,k4,k5,k6,k7,k8⟩:=id hk
 have tn:((a.hs.ms.length:Int)).toNat=a.hs.ms.length:=Int.toNat_natCast _
 have hlenP:=plansG_len (stop:=stop) hk h3
 refine PC.bodyA Tryz.func42 (by kernel_rfl) rfl (by simp[Tryz.f42]) ?_
 simp only[Tryz.f42]
 intro hlen
 simp only[go_sem,length_map,and_true,true_and]at hlen
 refine CV.cut6 (fun mg:Nat=>⟨[(5,.lp 3 0),(4,.nilS)],[.box 86 (cH a) false,.box 3 [.int .i64 stop] false,.raw mg (.map (foundN a stop)),.box 152 [.mp mg] false]⟩) (fun _=>True) ?_ ?_
 ·refine CV.run ?_
  repeat' first|refine sP ?_ ?_<;>intro hb<;>(try rw[hb])<;>(try simp only[bb]at hb)<;>(try simp only[within]at hb)<;>try simp only[go_sem,tn]|refine aI ?_|(with_reducible refine vcM_some fun mg=>?_)|(with_reducible refine vcMR fun mg=>?_)|(with_reducible refine vcRg_some fun rg=>?_)|simp only[go_sem,tn]
  obtain⟨j',g',h66⟩:=c83 a ha stop mg (a.hs.ms.length+a.hs.bs.length+1) 0 (List.replicate a.hs.ms.length []) [] 0 (fun _=>[]) (fun _=>0) (okQ_nil _ _) (nodup_nil _) (Nat.zero_le _) (by have:=cnt_le (usd (List.replicate a.hs.ms.length [])) a.hs.bs.length;omega) (fun e he=>by cases he) (by unfold plansG at hlenP;omega)
  rw[bs_nil]at h66
  refine vcP_raw ?_
  rw[show∀A B C D E F G:Blk,[A,B,C,D,E,F,G]=[A,B,C,D]++E::[F,G]from fun A B C D E F G=>rfl]
  refine HCH.nilGs (el:=3) (sz:=1) (by omega) _ _ _ ?_
  have e: ∀(A B C D F G:Blk),[A,B,C,D]++Blk.row 24 1 ((List.range a.hs.ms.length).map fun m=>[.rg ([A,B,C,D].length+1+[F,G].length+m) 0 0]) false::([F,G]++(List.range a.hs.ms.length).map fun _=> .rg 3 1 [] 0)=
    A::B::C::D:: .row 24 1 ((List.range a.hs.ms.length).map (rowE (List.replicate a.hs.ms.length []) fun _=>0)) false::F::G::(List.range a.hs.ms.length).map (rgE (List.replicate a.hs.ms.length []) (fun _=>[]) fun _=>0):=by
   intro A B C D F G
   have e1:(fun m=>[AV.rg ([A,B,C,D].length+1+[F,G].length+m) 0 0])=rowE (List.replicate a.hs.ms.length []) fun _=>0:=by
    funext m
    simp only[rowE,rep_getD,List.length_cons,List.length_nil]
    congr 2;omega
   have e2:(fun _=>Blk.rg 3 1 [] 0)=rgE (List.replicate a.hs.ms.length []) (fun _=>[]) fun _=>0:=by
    funext m
    simp only[rgE,rep_getD,append_nil,map_nil]
   rw[e1,e2];rfl
  rw[e]
  refine h66.mono ?_
  rintro r H' ⟨rfl,rfl⟩
  repeat' first|refine sP ?_ ?_<;>intro hb<;>(try rw[hb])<;>(try simp only[bb]at hb)<;>(try simp only[within]at hb)<;>try simp only[go_sem]|refine aI ?_|(with_reducible refine vcM_some fun mg=>?_)|(with_reducible refine vcMR fun mg=>?_)|(with_reducible refine vcRg_some fun rg=>?_)|simp only[go_sem]
  refine⟨mg,.base (wk_drop (by(simp only[go_sem])) ⟨rfl,rfl,rfl,rfl,trivial⟩ (Nat.zero_le _) (by(simp only[go_sem])) ?_)⟩
  exact⟨rfl,rfl,trivial,rfl,trivial⟩
 ·intro mg _
  refine CV.run ?_
  have hokF:=foundN_ok ha stop
  have hlF:(foundN a stop).length≤16384:=Nat.le_trans (foundN_len a stop) hlenP
  have hmem:=fun out=>mem_altN (a:=a) (stop:=stop) (out:=out)
  generalize foundN a stop=F at*
  repeat' first|refine sP ?_ ?_<;>intro hb<;>(try rw[hb])<;>(try simp only[bb]at hb)<;>(try simp only[within]at hb)<;>try simp only[go_sem,tn,findR,vc_range_map,rngD,T.kl152]|refine aI ?_|(with_reducible refine vcM_some fun mg=>?_)|(with_reducible refine vcMR fun mg=>?_)|(with_reducible refine vcRg_some fun rg=>?_)|simp only[go_sem,tn,findR,vc_range_map,rngD,T.kl152]
  rename Nat=>r1
  refine vc_raw_ne 2 4 rfl rfl (by omega) fun hn1=>?_
  have hn1': ¬r1=mg:=fun e=>hn1 e.symm
  refine vc_fx (fun j (x:List Nat×List (List Int))=>⟨[(23,.val (.pointer (some ⟨r1,0,none⟩))),(8,.row 5 x.2.length),(5,.lp 3 0),(4,.nilS)],[.box 86 (cH a) false,.box 3 [.int .i64 stop] false,.raw mg (.map F),.box 152 [.mp mg] false,.raw r1 (.it mg F.length x.1 F.length),.row 91 12 (x.2.map encK) false]⟩) F.length (fun j x=>seenN F x.1 j∧keptN F x.1 x.2) ([],[]) (.nilE 8 91 12 (by(simp only[go_sem])) (by omega) (.base (by exact w0))) ⟨.nil F,.nil F⟩ ?_
  rintro j ⟨seen,out⟩ hj ⟨hs,ho⟩
  simp only at hs ho
  have hol:=ho.len
  have hsl:=hs.len
  repeat' first|refine sP ?_ ?_<;>intro hb<;>(try rw[hb])<;>(try simp only[bb]at hb)<;>(try simp only[within]at hb)<;>try simp only[go_sem,findR,vc_next,nxtD,hn1,hn1']|refine aI ?_|(with_reducible refine vcM_some fun mg=>?_)|(with_reducible refine vcMR fun mg=>?_)|(with_reducible refine vcRg_some fun rg=>?_)|simp only[go_sem,findR,vc_next,nxtD,hn1,hn1']
  refine vcNx_some ⟨rfl,rfl⟩ (fun hall=>?_) fun i e he hi=>?_
  ·repeat' first|refine sP ?_ ?_<;>intro hb<;>(try rw[hb])<;>(try simp only[bb]at hb)<;>(try simp only[within]at hb)<;>try simp only[go_sem]|refine aI ?_|(with_reducible refine vcM_some fun mg=>?_)|(with_reducible refine vcMR fun mg=>?_)|(with_reducible refine vcRg_some fun rg=>?_)|simp only[go_sem]
   refine⟨lK out,List.mem_map.2 ⟨out,(hmem out).2 ⟨⟨by omega,fun s hs2=>(ho.good hall s |>.1 hs2).1⟩,ho.good hall⟩,rfl⟩,?_⟩
   (simp only[go_sem,pureK])
  ·simp only at he hi
   have hil:=(List.getElem?_eq_some_iff.1 he).1
   have hok:=(hokF e (mem_of_getElem? he)).1
   have hge:F.getD i ([],0)=e:=by simp[he]
   have hge2:(F[i]?).getD ([],0)=e:=by simp[he]
   have hk12:=hok.1
   repeat' first|refine sP ?_ ?_<;>intro hb<;>(try rw[hb])<;>(try simp only[bb]at hb)<;>(try simp only[within]at hb)<;>try simp only[go_sem,findR,vc_o_entry,vc_range_map,rngD,T.kl152,hn1,hn1',lastSeen,hil,hge,hge2,he,mapIe,allOne_mapI,tk12 hk12,dr12 hk12,hk12,length_map,append_nil]|refine aI ?_|(with_reducible refine vcM_some fun mg=>?_)|(with_reducible refine vcMR fun mg=>?_)|(with_reducible refine vcRg_some fun rg=>?_)|simp only[go_sem,findR,vc_o_entry,vc_range_map,rngD,T.kl152,hn1,hn1',lastSeen,hil,hge,hge2,he,mapIe,allOne_mapI,tk12 hk12,dr12 hk12,hk12,length_map,append_nil]
   rename Nat=>r2
   refine vc_raw_ne 2 7 rfl rfl (by omega) fun hn2=>vc_raw_ne 4 7 rfl rfl (by omega) fun hn3=>?_
   have hn2': ¬r2=mg:=fun e=>hn2 e.symm
   have hn3': ¬r2=r1:=fun e=>hn3 e.symm
   refine vc_fx (fun q (x:List Nat×Bool)=>⟨[(29,.val (.pointer (some ⟨r2,0,none⟩))),(10,.bool x.2),(9,.lp 6 0),(23,.val (.pointer (some ⟨r1,0,none⟩))),(8,.row 5 out.length),(5,.lp 3 0),(4,.nilS)],[.box 86 (cH a) false,.box 3 [.int .i64 stop] false,.raw mg (.map F),.box 152 [.mp mg] false,.raw r1 (.it mg F.length (seen++[i]) F.length),.row 91 12 (out.map encK) false,.box 91 (e.1.map I) false,.raw r2 (.it mg F.length x.1 F.length)]⟩) F.length (fun q x=>seenN F x.1 q∧(x.2=true↔ ∀k,k∈x.1→ ∀e',F[k]? =some e'→e.1=e'.1∨ ¬misS e.1 e'.1=zer12)) ([],true) (.base (by exact w0)) ⟨.nil F,by simp⟩ ?_
   rintro q ⟨see2,le⟩ hq ⟨hs2,hle⟩
   simp only at hs2 hle
   have hsl2:=hs2.len
   repeat' first|refine sP ?_ ?_<;>intro hb<;>(try rw[hb])<;>(try simp only[bb]at hb)<;>(try simp only[within]at hb)<;>try simp only[go_sem,findR,vc_next,nxtD,hn1,hn1',hn2,hn2',hn3,hn3']|refine aI ?_|(with_reducible refine vcM_some fun mg=>?_)|(with_reducible refine vcMR fun mg=>?_)|(with_reducible refine vcRg_some fun rg=>?_)|simp only[go_sem,findR,vc_next,nxtD,hn1,hn1',hn2,hn2',hn3,hn3']
   refine vcNx_some ⟨rfl,rfl⟩ (fun hall=>?_) fun i2 e2 he2 hi2=>?_
   ·have hmin:le=true↔isMin (keysF F) e.1:=by
     rw[hle]
     constructor
     ·intro h t ht
      obtain⟨e',h1,h2⟩:=List.mem_map.1 ht
      obtain⟨k,hk⟩:=List.mem_iff_getElem?.1 h1
      have:=h k (hall k (List.getElem?_eq_some_iff.1 hk).1) e' hk
      rwa[h2]at this
     ·intro h k _ e' hk
      exact h e'.1 (List.mem_map.2 ⟨e',mem_of_getElem? hk,rfl⟩)
    have hse:=hs.add he hi
    cases le with
    |true=>
     have hko:=ho.yes he (hmin.1 rfl)
     have hll:(out++[e.1]).map encK=out.map encK++[e.1.map I]:=by simp[encK]
     repeat' first|refine sP ?_ ?_<;>intro hb<;>(try rw[hb])<;>(try simp only[bb]at hb)<;>(try simp only[within]at hb)<;>try simp only[go_sem,allOne_mapI,tk12 hk12,dr12 hk12,hk12,length_map,append_nil]|refine aI ?_|(with_reducible refine vcM_some fun mg=>?_)|(with_reducible refine vcMR fun mg=>?_)|(with_reducible refine vcRg_some fun rg=>?_)|simp only[go_sem,allOne_mapI,tk12 hk12,dr12 hk12,hk12,length_map,append_nil]
     exact⟨(seen++[i],out++[e.1]),by have:=hse.le;omega,.base (by(first|exact wk_same (by simp only[go_sem,ic,hll,length_append])|(refine wk_drop ?_ ?_ ?_ ?_ ?_<;>simp only[go_sem,ic,hll,length_append]))),hse,hko⟩
    |false=>
     have hko:=ho.no he (fun h=>by have:=hmin.2 h;cases this)
     repeat' first|refine sP ?_ ?_<;>intro hb<;>(try rw[hb])<;>(try simp only[bb]at hb)<;>(try simp only[within]at hb)<;>try simp only[go_sem]|refine aI ?_|(with_reducible refine vcM_some fun mg=>?_)|(with_reducible refine vcMR fun mg=>?_)|(with_reducible refine vcRg_some fun rg=>?_)|simp only[go_sem]
     exact⟨(seen++[i],out),by have:=hse.le;omega,.base (by exact w0),hse,hko⟩
   ·simp only at he2 hi2
    have hil2:=(List.getElem?_eq_some_iff.1 he2).1
    have hok2:=(hokF e2 (mem_of_getElem? he2)).1
    have hg2:F.getD i2 ([],0)=e2:=by simp[he2]
    have hg3:(F[i2]?).getD ([],0)=e2:=by simp[he2]
    have hk2:=hok2.1
    have hse2:=hs2.add he2 hi2
    have heq:eqL (e.1.map I) (e2.1.map I)=some (decide (e.1=e2.1)):=eqL_I (by rw[hk12,hk2])
    have h69:=c82 e.1 e2.1 hk12 hk2 fun x y h1 h2=>by have:=hok.2 x h1;have:=hok2.2 y h2;unfold I64;omega
    have hnext: ∀v:Bool,(v=true↔(le=true∧(e.1=e2.1∨ ¬misS e.1 e2.1=zer12)))→(v=true↔ ∀k,k∈see2++[i2]→ ∀e',F[k]? =some e'→e.1=e'.1∨ ¬misS e.1 e'.1=zer12):=fun v hv=>by
     rw[hv,hle]
     constructor
     ·rintro⟨h1,h2⟩ k hk e' he'
      rcases List.mem_append.1 hk with hk|hk
      ·exact h1 k hk e' he'
      ·rw[List.mem_singleton.1 hk,he2]at he';cases he';exact h2
     ·intro h
      exact⟨fun k hk=>h k (by simp[hk]),h i2 (by simp) e2 he2⟩
    cases le with
    |false=>
     repeat' first|refine sP ?_ ?_<;>intro hb<;>(try rw[hb])<;>(try simp only[bb]at hb)<;>(try simp only[within]at hb)<;>try simp only[go_sem,findR,vc_o_entry,hn1,hn1',hn2,hn2',hn3,hn3',lastSeen,hil2,hg2,hg3,he2,mapIe,allOne_mapI,tk12 hk12,dr12 hk12,hk12,tk12 hk2,dr12 hk2,hk2,length_map,append_nil]|refine aI ?_|(with_reducible refine vcM_some fun mg=>?_)|(with_reducible refine vcMR fun mg=>?_)|(with_reducible refine vcRg_some fun rg=>?_)|simp only[go_sem,findR,vc_o_entry,hn1,hn1',hn2,hn2',hn3,hn3',lastSeen,hil2,hg2,hg3,he2,mapIe,allOne_mapI,tk12 hk12,dr12 hk12,hk12,tk12 hk2,dr12 hk2,hk2,length_map,append_nil]
     exact⟨(see2++[i2],false),by have:=hse2.le;omega,.base (by exact w0),hse2,hnext false (by simp)⟩
    |true=>
     have heq2:eqL (e2.1.map I) (e2.1.map I)=some true:=by rw[eqL_I rfl];simp
     by_cases hee:e.1=e2.1
     ·repeat' first|refine sP ?_ ?_<;>intro hb<;>(try rw[hb])<;>(try simp only[bb]at hb)<;>(try simp only[within]at hb)<;>try simp only[go_sem,findR,vc_o_entry,hn1,hn1',hn2,hn2',hn3,hn3',lastSeen,hil2,hg2,hg3,he2,mapIe,allOne_mapI,tk12 hk12,dr12 hk12,hk12,tk12 hk2,dr12 hk2,hk2,heq,heq2,hee,length_map,append_nil,or_true,if_true]|refine aI ?_|(with_reducible refine vcM_some fun mg=>?_)|(with_reducible refine vcMR fun mg=>?_)|(with_reducible refine vcRg_some fun rg=>?_)|simp only[go_sem,findR,vc_o_entry,hn1,hn1',hn2,hn2',hn3,hn3',lastSeen,hil2,hg2,hg3,he2,mapIe,allOne_mapI,tk12 hk12,dr12 hk12,hk12,tk12 hk2,dr12 hk2,hk2,heq,heq2,hee,length_map,append_nil,or_true,if_true]
      have hnx:=hnext true (by simp[hee])
      rw[hee]at hnx
      exact⟨(see2++[i2],true),by have:=hse2.le;omega,.base (by exact w0),hse2,hnx⟩
     ·repeat' first|refine sP ?_ ?_<;>intro hb<;>(try rw[hb])<;>(try simp only[bb]at hb)<;>(try simp only[within]at hb)<;>try simp only[go_sem,findR,vc_o_entry,hn1,hn1',hn2,hn2',hn3,hn3',lastSeen,hil2,hg2,hg3,he2,mapIe,allOne_mapI,tk12 hk12,dr12 hk12,hk12,tk12 hk2,dr12 hk2,hk2,heq,hee,length_map,append_nil,or_true,if_true]|refine aI ?_|(with_reducible refine vcM_some fun mg=>?_)|(with_reducible refine vcMR fun mg=>?_)|(with_reducible refine vcRg_some fun rg=>?_)|simp only[go_sem,findR,vc_o_entry,hn1,hn1',hn2,hn2',hn3,hn3',lastSeen,hil2,hg2,hg3,he2,mapIe,allOne_mapI,tk12 hk12,dr12 hk12,hk12,tk12 hk2,dr12 hk2,hk2,heq,hee,length_map,append_nil,or_true,if_true]
      refine vcP_pure h69 rfl (by(simp only[go_sem,pureL_mapI,AV.pureL,AV.pure,Bool.and_self])) (by(simp only[go_sem,frzL_mapI])) ?_
      repeat' first|refine sP ?_ ?_<;>intro hb<;>(try rw[hb])<;>(try simp only[bb]at hb)<;>(try simp only[within]at hb)<;>try simp only[go_sem]|refine aI ?_|(with_reducible refine vcM_some fun mg=>?_)|(with_reducible refine vcMR fun mg=>?_)|(with_reducible refine vcRg_some fun rg=>?_)|simp only[go_sem]
      exact⟨(see2++[i2],!decide (misS e.1 e2.1=zer12)),by have:=hse2.le;omega,.base (by exact w0),hse2,hnext _ (by simp[hee])⟩
theorem cmp1_anti(a b:Int):cmp1 b a= -cmp1 a b:=by unfold cmp1;split<;>split<;>first|rfl|omega|(split<;>first|rfl|omega)
theorem cmpI_anti: ∀a b:List Int,cmpI b a= -cmpI a b
 |[],[]=>rfl
 |[],_::_=>rfl
 |_::_,[]=>rfl
 |a::l,b::r=>by
  have ih:=cmpI_anti l r
  have h1:=cmp1_anti a b
  simp only[cmpI,h1]
  split<;>split<;>first|exact ih|rfl|omega
theorem cmpI_eq: ∀{a b:List Int},cmpI a b=0→a=b
 |[],[],_=>rfl
 |[],_::_,h=>by simp[cmpI]at h
 |_::_,[],h=>by simp[cmpI]at h
 |a::l,b::r,h=>by
  simp only[cmpI]at h
  split at h
  ·rename_i h1
   have h2:=cmpI_eq h
   have h3:a=b:=by unfold cmp1 at h1;split at h1<;>(try split at h1)<;>omega
   rw[h2,h3]
  ·contradiction
theorem cmpI_trans: ∀{a b c:List Int},cmpI a b<0→cmpI b c<0→cmpI a c<0
 |[],[],_,h,_=>by simp[cmpI]at h
 |[],_::_,[],_,h=>by simp[cmpI]at h
 |[],_::_,_::_,_,_=>by simp[cmpI]
 |_::_,[],_,h,_=>by simp[cmpI]at h
 |_::_,_::_,[],_,h=>by simp[cmpI]at h
 |a::l,b::r,c::t,h1,h2=>by
  simp only[cmpI]at h1 h2 ⊢
  by_cases e1:cmp1 a b=0<;>by_cases e2:cmp1 b c=0
  ·rw[if_pos e1]at h1;rw[if_pos e2]at h2
   have:cmp1 a c=0:=by unfold cmp1 at *; split at e1<;>split at e2<;>(try split at e1)<;>(try split at e2)<;>(try split)<;>first|omega|(split<;>omega)
   rw[if_pos this];exact cmpI_trans h1 h2
  ·rw[if_neg e2]at h2
   have h3:cmp1 a c<0:=by unfold cmp1 at *; split at e1<;>split at h2<;>(try split at e1)<;>(try split at h2)<;>(try split)<;>first|omega|(split<;>omega)
   rw[if_neg (by omega)];exact h3
  ·rw[if_neg e1]at h1
   have h3:cmp1 a c<0:=by unfold cmp1 at *; split at h1<;>split at e2<;>(try split at h1)<;>(try split at e2)<;>(try split)<;>first|omega|(split<;>omega)
   rw[if_neg (by omega)];exact h3
  ·rw[if_neg e1]at h1;rw[if_neg e2]at h2
   have h3:cmp1 a c<0:=by unfold cmp1 at *; split at h1<;>split at h2<;>(try split at h1)<;>(try split at h2)<;>(try split)<;>first|omega|(split<;>omega)
   rw[if_neg (by omega)];exact h3
theorem cmpI_app: ∀{a b c d:List Int},a.length=b.length→cmpI (a++c) (b++d)=if cmpI a b≠0 then cmpI a b else cmpI c d
 |[],[],c,d,_=>by simp[cmpI]
 |[],_::_,_,_,h=>by simp at h
 |_::_,[],_,_,h=>by simp at h
 |a::l,b::r,c,d,h=>by
  have ih:=cmpI_app (a:=l) (b:=r) (c:=c) (d:=d) (by simpa using h)
  simp only[List.cons_append,cmpI]
  split
  ·exact ih
  ·rename_i h1;simp[h1]
theorem befS_cmp{s t:List Int}(hs:s.length=12)(ht:t.length=12):befS s t 0 4=cmpI t s:=by
 obtain⟨a0,a1,a2,a3,a4,a5,a6,a7,a8,a9,a10,a11,rfl⟩:=shelf12 hs
 obtain⟨b0,b1,b2,b3,b4,b5,b6,b7,b8,b9,b10,b11,rfl⟩:=shelf12 ht
 have e1:=cmpI_app (a:=[b0,b1,b2]) (b:=[a0,a1,a2]) (c:=[b3,b4,b5,b6,b7,b8,b9,b10,b11]) (d:=[a3,a4,a5,a6,a7,a8,a9,a10,a11]) rfl
 have e2:=cmpI_app (a:=[b3,b4,b5]) (b:=[a3,a4,a5]) (c:=[b6,b7,b8,b9,b10,b11]) (d:=[a6,a7,a8,a9,a10,a11]) rfl
 have e3:=cmpI_app (a:=[b6,b7,b8]) (b:=[a6,a7,a8]) (c:=[b9,b10,b11]) (d:=[a9,a10,a11]) rfl
 simp only[List.cons_append,List.nil_append]at e1 e2 e3
 rw[e1,e2,e3]
 simp only[befS,rowS,List.drop_succ_cons,List.drop_zero,List.take_succ_cons,List.take_zero,Nat.mul_zero,Nat.reduceMul,Nat.reduceAdd]
 generalize cmpI [b0,b1,b2] [a0,a1,a2]=x
 generalize cmpI [b3,b4,b5] [a3,a4,a5]=y
 generalize cmpI [b6,b7,b8] [a6,a7,a8]=z
 generalize cmpI [b9,b10,b11] [a9,a10,a11]=w
 by_cases hx:x=0<;>by_cases hy:y=0<;>by_cases hz:z=0<;>by_cases hw:w=0<;>simp[hx,hy,hz,hw]
def cmpS(s t:List Int):Int:=if s.sum-t.sum≠0 then s.sum-t.sum else befS s t 0 4
theorem cmpS_iff{s t:List Int}(hs:s.length=12)(ht:t.length=12):cmpS s t<0↔s.sum<t.sum∨s.sum=t.sum∧cmpI t s<0:=by
 unfold cmpS;rw[befS_cmp hs ht];split<;>omega
theorem cmpS_asy{s t:List Int}(hs:s.length=12)(ht:t.length=12)(h:cmpS s t<0): ¬cmpS t s<0:=by
 rw[cmpS_iff hs ht]at h
 rw[cmpS_iff ht hs]
 have:=cmpI_anti s t
 omega
theorem cmpS_tot{s t:List Int}(hs:s.length=12)(ht:t.length=12)(h: ¬cmpS s t<0)(h': ¬cmpS t s<0):s=t:=by
 rw[cmpS_iff hs ht]at h
 rw[cmpS_iff ht hs]at h'
 have:=cmpI_anti s t
 exact cmpI_eq (by omega)
theorem cmpS_trans{s t u:List Int}(hs:s.length=12)(ht:t.length=12)(hu:u.length=12)(h:cmpS s t<0)(h':cmpS t u<0):cmpS s u<0:=by
 rw[cmpS_iff hs ht]at h
 rw[cmpS_iff ht hu]at h'
 rw[cmpS_iff hs hu]
 have h1:=cmpI_anti u t
 have h2:= @cmpI_trans u t s
 omega
def joinS(s t:List Int):List Int:=zipS max s t
def stepB(best n:Option (List Int)):Option (List Int):=match n with
 |none=>best
 |some n=>match best with
  |none=>some n
  |some b=>if cmpS n b<0 then some n else some b
def fewL:List (List (List Int))→List Int→Option (List Int)
 |[],s=>some s
 |c::cs,s=>c.foldl (fun best t=>stepB best (fewL cs (joinS s t))) none
def reach:List (List (List Int))→List Int→List Int→Prop
 |[],s,b=>b=s
 |c::cs,s,b=> ∃t,t∈c∧reach cs (joinS s t) b
def len12(cs:List (List (List Int))):Prop:= ∀c,c∈cs→ ∀t,t∈c→t.length=12
theorem reach_len: ∀{cs:List (List (List Int))} {s b:List Int},len12 cs→s.length=12→reach cs s b→b.length=12
 |[],s,b,_,hs,h=>by rw[show b=s from h];exact hs
 |c::cs,s,b,hc,hs,⟨t,h1,h2⟩=>reach_len (fun c hc'=>hc c (by simp[hc'])) (zipS_len hs (hc c (by simp) t h1)) h2
def bestOf(X:List Int→Prop):Option (List Int)→Prop
 |none=> ∀b,¬ X b
 |some b=>X b∧ ∀n,X n→n=b∨cmpS b n<0
theorem bestOf_step{X Y:List Int→Prop}(hX: ∀b,X b→b.length=12)(hY: ∀b,Y b→b.length=12){x y:Option (List Int)}(hx:bestOf X x)(hy:bestOf Y y):bestOf (fun b=>X b∨Y b) (stepB x y):=by
 cases y with
 |none=>
  cases x with
  |none=>exact fun b h=>h.elim (hx b) (hy b)
  |some b=>exact⟨.inl hx.1,fun n h=>h.elim (hx.2 n) fun h=>absurd h (hy n)⟩
 |some d=>
  cases x with
  |none=>exact⟨.inr hy.1,fun n h=>h.elim (fun h=>absurd h (hx n)) (hy.2 n)⟩
  |some b=>
   have lb:=hX b hx.1
   have ld:=hY d hy.1
   simp only[stepB]
   split
   ·rename_i hlt
    refine⟨.inr hy.1,fun n h=>h.elim (fun h=>?_) (hy.2 n)⟩
    rcases hx.2 n h with rfl|h2
    ·exact .inr hlt
    ·exact .inr (cmpS_trans ld lb (hX n h) hlt h2)
   ·rename_i hlt
    refine⟨.inl hx.1,fun n h=>h.elim (hx.2 n) fun h=>?_⟩
    have hbd:d=b∨cmpS b d<0:=by
     by_cases h3:cmpS b d<0
     ·exact .inr h3
     ·exact .inl (cmpS_tot ld lb hlt h3)
    rcases hy.2 n h with rfl|h2
    ·exact hbd
    ·rcases hbd with rfl|h4
     ·exact .inr h2
     ·exact .inr (cmpS_trans lb ld (hY n h) h4 h2)
theorem fewL_best: ∀(cs:List (List (List Int))) (s:List Int),len12 cs→s.length=12→bestOf (reach cs s) (fewL cs s)
 |[],s,_,_=>⟨rfl,fun n h=> .inl h⟩
 |c::cs,s,hc,hs=>by
  have hcs:len12 cs:=fun c hc'=>hc c (by simp[hc'])
  have key: ∀(d pre:List (List Int)) (x:Option (List Int)),(∀t,t∈d→t∈c)→(∀t,t∈pre→t∈c)→bestOf (fun b=> ∃t,t∈pre∧reach cs (joinS s t) b) x→bestOf (fun b=> ∃t,t∈pre++d∧reach cs (joinS s t) b) (d.foldl (fun best t=>stepB best (fewL cs (joinS s t))) x):=by
   intro d
   induction d with
   |nil=>intro pre x _ _ h;simpa using h
   |cons t d ih=>
    intro pre x h1 h2 h
    have ht:=h1 t (by simp)
    have hl:=zipS_len (φ:=max) hs (hc c (by simp) t ht)
    have h3:=bestOf_step (fun b ⟨u,hu,hb⟩=>reach_len hcs (zipS_len hs (hc c (by simp) u (h2 u hu))) hb) (fun b hb=>reach_len hcs hl hb) h (fewL_best cs (joinS s t) hcs hl)
    have h2': ∀u,u∈pre++[t]→u∈c:=fun u hu=>by
     rcases List.mem_append.1 hu with hu|hu
     ·exact h2 u hu
     ·rw[List.mem_singleton.1 hu];exact ht
    have h1': ∀u,u∈d→u∈c:=fun u hu=>h1 u (by simp[hu])
    have h4:=ih (pre++[t]) (stepB x (fewL cs (joinS s t))) h1' h2' (by
     have e:(fun b=> ∃u,u∈pre++[t]∧reach cs (joinS s u) b)=fun b=>(∃u,u∈pre∧reach cs (joinS s u) b)∨reach cs (joinS s t) b:=by
      funext b
      simp only[List.mem_append,List.mem_singleton,eq_iff_iff]
      constructor
      ·rintro⟨u,hu|rfl,hb⟩
       ·exact .inl ⟨u,hu,hb⟩
       ·exact .inr hb
      ·rintro(⟨u,hu,hb⟩|hb)
       ·exact⟨u,.inl hu,hb⟩
       ·exact⟨t,.inr rfl,hb⟩
     rw[e];exact h3)
    rw[List.append_assoc]at h4
    exact h4
  have:=key c [] none (fun t h=>h) (fun t h=>by cases h) (fun b ⟨t,h,_⟩=>by cases h)
  rw[List.nil_append]at this
  exact this
theorem best_one{X:List Int→Prop}(hX: ∀b,X b→b.length=12){x y:Option (List Int)}(hx:bestOf X x)(hy:bestOf X y):x=y:=by
 cases x with
 |none=>cases y with
  |none=>rfl
  |some d=>exact absurd hy.1 (hx d)
 |some b=>cases y with
  |none=>exact absurd hx.1 (hy b)
  |some d=>
   rcases hx.2 d hy.1 with h|h
   ·rw[h]
   ·rcases hy.2 b hx.1 with h2|h2
    ·rw[h2]
    ·exact absurd h2 (cmpS_asy (hX b hx.1) (hX d hy.1) h)
def sameL:List (List (List Int))→List (List (List Int))→Prop
 |[],[]=>True
 |c::cs,d::ds=>(∀t,t∈c↔t∈d)∧sameL cs ds
 |_,_=>False
theorem reach_same: ∀{cs ds:List (List (List Int))} {s b:List Int},sameL cs ds→(reach cs s b↔reach ds s b)
 |[],[],_,_,_=>Iff.rfl
 |[],_::_,_,_,h=>h.elim
 |_::_,[],_,_,h=>h.elim
 |c::cs,d::ds,s,b,⟨h1,h2⟩=>by
  simp only[reach]
  constructor
  ·rintro⟨t,ht,hb⟩;exact⟨t,(h1 t).1 ht,(reach_same h2).1 hb⟩
  ·rintro⟨t,ht,hb⟩;exact⟨t,(h1 t).2 ht,(reach_same h2).2 hb⟩
theorem fewL_same{cs ds:List (List (List Int))}{s:List Int}(hc:len12 cs)(hd:len12 ds)(hs:s.length=12)(h:sameL cs ds):fewL cs s=fewL ds s:=by
 have e:reach cs s=reach ds s:=by funext b;exact propext (reach_same h)
 have h1:=fewL_best cs s hc hs
 rw[e]at h1
 exact best_one (fun b hb=>reach_len hd hs hb) h1 (fewL_best ds s hd hs)
theorem fewL_some{cs:List (List (List Int))}{s:List Int}(hc:len12 cs)(hs:s.length=12):(fewL cs s).isSome=true↔ ∀c,c∈cs→c≠[]:=by
 have h:=fewL_best cs s hc hs
 have hr:(∃b,reach cs s b)↔ ∀c,c∈cs→c≠[]:=by
  clear h
  induction cs generalizing s with
  |nil=>exact⟨fun _ c hc=>(by cases hc),fun _=>⟨s,rfl⟩⟩
  |cons c cs ih=>
   have hcs:len12 cs:=fun c hc'=>hc c (by simp[hc'])
   constructor
   ·rintro⟨b,t,ht,hb⟩ d hd
    rcases List.mem_cons.1 hd with rfl|hd
    ·exact List.ne_nil_of_mem ht
    ·exact(ih hcs (zipS_len (φ:=max) hs (hc c (by simp) t ht))).1 ⟨b,hb⟩ d hd
   ·intro h
    obtain⟨t,ht⟩:=List.exists_mem_of_ne_nil c (h c (by simp))
    obtain⟨b,hb⟩:=(ih hcs (zipS_len (φ:=max) hs (hc c (by simp) t ht))).2 fun d hd=>h d (by simp[hd])
    exact⟨b,t,ht,hb⟩
 rw[←hr]
 cases hf:fewL cs s with
 |none=>
  rw[hf]at h
  have h: ∀b,¬ reach cs s b:=h
  simp only[Option.isSome_none,Bool.false_eq_true,false_iff]
  rintro⟨b,hb⟩
  exact h b hb
 |some b=>
  rw[hf]at h
  have h:reach cs s b∧_:=h
  simp only[Option.isSome_some,true_iff]
  exact⟨b,h.1⟩
def sZ05b_f35:Nat→List (Nat×Nat)
 |6=>[(0,0),(0,0),(0,0),(0,0),(0,0),(0,0),(0,0),(0,0),(0,1),(0,0),(0,0),(1,1)]
 |7=>[(0,0),(0,0),(0,0),(0,0),(0,0),(0,0),(0,0),(0,0),(0,0),(0,0),(0,0),(0,0),(0,0),(0,0),(0,0),(0,0),(0,0),(0,0)]
 |_=>[]
attribute [go_sem] sZ05b_f35
def encKK(c:List (List Int)):List AV:=[lK c]
theorem pureKK(l:List (List (List Int))):pureE (l.map encKK)=True:=pureE_map fun _=>rfl
attribute [go_sem] pureKK
abbrev lKK(cs:List (List (List Int))):AV:= .lst false 1 (cs.map encKK)
theorem c77(a b:Int):PC prog 77 [.lst false 1 [[.int .i64 a],[.int .i64 b]]] (.int .i64 (if a≠0 then a else b)):=by
 refine pB Tryz.func77 fun hlen=>CV.run ?_
 simp only[Tryz.f77]
 simp only[go_sem,length_map,and_true,true_and]at hlen
 repeat' first|refine sP ?_ ?_<;>intro hb<;>(try rw[hb])<;>(try simp only[bb]at hb)<;>(try simp only[within]at hb)<;>try simp only[go_sem]|refine aI ?_|simp only[go_sem]
 refine vc_for (fun j=>⟨[(8,.int .i64 j),(7,.int .i64 2),(6,.lst false 1 [[.int .i64 a],[.int .i64 b]]),(3,.int .i64 0),(2,.int .i64 0)],[]⟩) 2 (fun j=>(1≤j→a=0)∧(2≤j→b=0)) (by exact w0) ⟨fun h=>by omega,fun h=>by omega⟩ ?_
 intro j hj hx
 have hc:j=0∨j=1∨j=2:=by omega
 rcases hc with rfl|rfl|rfl
 ·repeat' first|refine sP ?_ ?_<;>intro hb<;>(try rw[hb])<;>(try simp only[bb]at hb)<;>(try simp only[within]at hb)<;>try simp only[go_sem]|refine aI ?_|simp only[go_sem]
  ·rw[if_pos (by assumption)]
  ·exact⟨by exact w0,fun _=>(by first|omega|simpa using hb),fun h=>by first|exact h.elim|omega⟩
 ·have ha:=hx.1 (by omega)
  repeat' first|refine sP ?_ ?_<;>intro hb<;>(try rw[hb])<;>(try simp only[bb]at hb)<;>(try simp only[within]at hb)<;>try simp only[go_sem,ha]|refine aI ?_|simp only[go_sem,ha]
  exact⟨by exact w0,fun _=>by first|omega|simpa using hb⟩
 ·have ha:=hx.1 (by omega)
  have hb:=hx.2 (by omega)
  repeat' first|refine sP ?_ ?_<;>intro hb<;>(try rw[hb])<;>(try simp only[bb]at hb)<;>(try simp only[within]at hb)<;>try simp only[go_sem,ha,hb]|refine aI ?_|simp only[go_sem,ha,hb]
theorem reach_ok: ∀{cs:List (List (List Int))} {s b:List Int},okS s 3→(∀c,c∈cs→ ∀t,t∈c→okS t 3)→reach cs s b→okS b 3
 |[],s,b,hs,_,h=>by rw[show b=s from h];exact hs
 |c::cs,s,b,hs,hc,⟨t,h1,h2⟩=>reach_ok (hs.max (hc c (by simp) t h1)) (fun d hd=>hc d (by simp[hd])) h2
theorem ok_len12{cs:List (List (List Int))}(h: ∀c,c∈cs→ ∀t,t∈c→okS t 3):len12 cs:=fun c hc t ht=>(h c hc t ht).1
theorem fewL_ok{cs:List (List (List Int))}{s b:List Int}(hs:okS s 3)(hc: ∀c,c∈cs→ ∀t,t∈c→okS t 3)(h:fewL cs s=some b):okS b 3:=by
 have:=fewL_best cs s (ok_len12 hc) hs.1
 rw[h]at this
 exact reach_ok hs hc this.1
theorem okS.bd{s:List Int}(h:okS s 3): ∀n,n∈s→0≤n∧n≤1000:=fun n hn=>by have:=h.2 n hn;omega
theorem okS.sum{s:List Int}(h:okS s 3):0≤s.sum∧s.sum≤12000:=by
 have:=sum_bd h.bd 12
 have e:sumTo s 12=s.sum:=by unfold sumTo;rw[List.take_of_length_le (by rw[h.1];omega)]
 rw[e]at this
 omega
def fewR(cs:List (List (List Int)))(s:List Int):AV:= .tup [.agg (((fewL cs s).getD zer12).map I),.bool (fewL cs s).isSome]
theorem fewR_pure{cs:List (List (List Int))}{s:List Int}:(fewR cs s).pure=true:=by simp[fewR,AV.pure,AV.pureL,pureL_mapI]
set_option maxHeartbeats 8000000 in
theorem c35: ∀(cs:List (List (List Int))) (s:List Int),okS s 3→(∀c,c∈cs→ ∀t,t∈c→okS t 3)→(∀c,c∈cs→c.length≤100000)→PC prog 35 [.agg (s.map I),lKK cs] (fewR cs s):=by
 intro cs
 induction cs with
 |nil=>
  intro s hs _ _
  refine PC.body Tryz.func35 (by kernel_rfl) rfl (by simp[Tryz.f35]) fewR_pure ?_
  simp only[Tryz.f35]
  intro hlen
  simp only[go_sem,length_map,and_true,true_and]at hlen
  refine CV.run ?_
  repeat' first|refine sP ?_ ?_<;>intro hb<;>(try rw[hb])<;>(try simp only[bb]at hb)<;>(try simp only[within]at hb)<;>try simp only[go_sem,allOne_mapI,tk12 hs.1,dr12 hs.1,hs.1,length_map,append_nil,fewR,fewL,frzL_mapI,Option.getD_some,Option.isSome_some]|refine aI ?_|with_reducible refine dw sZ05b_f35 ?_|simp only[go_sem,allOne_mapI,tk12 hs.1,dr12 hs.1,hs.1,length_map,append_nil,fewR,fewL,frzL_mapI,Option.getD_some,Option.isSome_some]
 |cons c cs ih=>
  intro s hs hc hcl
  have hcl0:=hcl c (by simp)
  have hcc:=hc c (by simp)
  have hcs: ∀d,d∈cs→ ∀t,t∈d→okS t 3:=fun d hd=>hc d (by simp[hd])
  have hneg: ¬((cs.length:Int)+1=0):=by omega
  refine PC.body Tryz.func35 (by kernel_rfl) rfl (by simp[Tryz.f35]) fewR_pure ?_
  simp only[Tryz.f35]
  intro hlen
  simp only[go_sem,length_map,and_true,true_and]at hlen
  refine CV.run ?_
  repeat' first|refine sP ?_ ?_<;>intro hb<;>(try rw[hb])<;>(try simp only[bb]at hb)<;>(try simp only[within]at hb)<;>try simp only[go_sem,encKK,hneg,allOne_mapI,tk12 hs.1,dr12 hs.1,hs.1,length_map,append_nil]|refine aI ?_|with_reducible refine dw sZ05b_f35 ?_|simp only[go_sem,encKK,hneg,allOne_mapI,tk12 hs.1,dr12 hs.1,hs.1,length_map,append_nil]
  refine vc_fx (fun j (x:Option (List Int))=>⟨[(18,.int .i64 j),(17,.int .i64 c.length),(16,lK c),(1,lKK (c::cs)),(2,.lp 0 0),(4,.lp 1 0),(5,.bool x.isSome)],[.box 91 (s.map I) false,.box 91 ((x.getD zer12).map I) false]⟩) c.length (fun j x=>x=(c.take j).foldl (fun best t=>stepB best (fewL cs (joinS s t))) none∧ ∀b,x=some b→okS b 3) none (.base (by(first|exact wk_same (by simp only[go_sem,ic,encKK,zer12,I,Option.isSome_none,Option.getD_none])|(refine wk_drop ?_ ?_ ?_ ?_ ?_<;>simp only[go_sem,ic,encKK,zer12,I,Option.isSome_none,Option.getD_none])))) ⟨rfl,fun b h=>by cases h⟩ ?_
  intro j x hj ⟨hx,hxb⟩
  have hxk:okS (x.getD zer12) 3:=by
   cases x with
   |none=>exact okS.zero.mono (by omega)
   |some b=>exact hxb b rfl
  rcases Nat.lt_or_ge j c.length with hlt|hge
  ·obtain⟨t,ht⟩:=get_of hlt
   have hlt':(j:Int)<c.length:=by omega
   have htk:=hcc t (mem_of_getElem? ht)
   have h44:=c76 s t hs.1 htk.1
   have hj3:okS (joinS s t) 3:=hs.max htk
   have h35:=ih (joinS s t) hj3 hcs fun d hd=>hcl d (by simp[hd])
   have hstep:(c.take (j+1)).foldl (fun best t=>stepB best (fewL cs (joinS s t))) none=stepB x (fewL cs (joinS s t)):=by
    rw[List.take_add_one,ht,List.foldl_append,← hx];rfl
   repeat' first|refine sP ?_ ?_<;>intro hb<;>(try rw[hb])<;>(try simp only[bb]at hb)<;>(try simp only[within]at hb)<;>try simp only[go_sem,hlt',ht,encK,encKK,allOne_mapI,tk12 hs.1,dr12 hs.1,hs.1,tk12 htk.1,dr12 htk.1,htk.1,length_map,append_nil]|refine aI ?_|with_reducible refine dw sZ05b_f35 ?_|simp only[go_sem,hlt',ht,encK,encKK,allOne_mapI,tk12 hs.1,dr12 hs.1,hs.1,tk12 htk.1,dr12 htk.1,htk.1,length_map,append_nil]
   refine dp h44 ⟨pureL_mapI _,by(simp only[go_sem,pureL_mapI]),by(simp only[go_sem,frzL_mapI])⟩ ?_
   repeat' first|refine sP ?_ ?_<;>intro hb<;>(try rw[hb])<;>(try simp only[bb]at hb)<;>(try simp only[within]at hb)<;>try simp only[go_sem,hlt',ht,encK,encKK,allOne_mapI,tk12 hs.1,dr12 hs.1,hs.1,tk12 htk.1,dr12 htk.1,htk.1,length_map,append_nil]|refine aI ?_|with_reducible refine dw sZ05b_f35 ?_|simp only[go_sem,hlt',ht,encK,encKK,allOne_mapI,tk12 hs.1,dr12 hs.1,hs.1,tk12 htk.1,dr12 htk.1,htk.1,length_map,append_nil]
   refine dp h35 ⟨fewR_pure,by(simp only[go_sem,pureL_mapI]),by(simp only[go_sem,frzL_mapI])⟩ ?_
   have hnk:okS ((fewL cs (joinS s t)).getD zer12) 3:=by
    cases hf:fewL cs (joinS s t)with
    |none=>exact okS.zero.mono (by omega)
    |some b=>exact fewL_ok hj3 hcs hf
   have hnb: ∀b,fewL cs (joinS s t)=some b→okS b 3:=fun b hb=>fewL_ok hj3 hcs hb
   generalize hN:fewL cs (joinS s t)=N at*
   have hx0:=hxk.1
   cases N with
   |none=>
    have hz:=okS.zero.1
    repeat' first|refine sP ?_ ?_<;>intro hb<;>(try rw[hb])<;>(try simp only[bb]at hb)<;>(try simp only[within]at hb)<;>try simp only[go_sem,fewR,hN,hlt',ht,encK,encKK,allOne_mapI,tk12 hs.1,dr12 hs.1,hs.1,tk12 htk.1,dr12 htk.1,htk.1,length_map,append_nil,Option.isSome_some,Option.isSome_none,Option.getD_some,Option.getD_none,tk12 hz,dr12 hz,hz]|refine aI ?_|with_reducible refine dw sZ05b_f35 ?_|simp only[go_sem,fewR,hN,hlt',ht,encK,encKK,allOne_mapI,tk12 hs.1,dr12 hs.1,hs.1,tk12 htk.1,dr12 htk.1,htk.1,length_map,append_nil,Option.isSome_some,Option.isSome_none,Option.getD_some,Option.getD_none,tk12 hz,dr12 hz,hz]
    refine⟨x,hlt,.base (by exact w0),by rw[hstep,stepB],hxb⟩
   |some n=>
    have hnk:=hnb n rfl
    cases x with
    |none=>
     have hz:=okS.zero.1
     repeat' first|refine sP ?_ ?_<;>intro hb<;>(try rw[hb])<;>(try simp only[bb]at hb)<;>(try simp only[within]at hb)<;>try simp only[go_sem,fewR,hN,hlt',ht,encK,encKK,allOne_mapI,tk12 hs.1,dr12 hs.1,hs.1,tk12 htk.1,dr12 htk.1,htk.1,length_map,append_nil,Option.isSome_some,Option.isSome_none,Option.getD_some,Option.getD_none,tk12 hnk.1,dr12 hnk.1,hnk.1,tk12 hz,dr12 hz,hz]|refine aI ?_|with_reducible refine dw sZ05b_f35 ?_|simp only[go_sem,fewR,hN,hlt',ht,encK,encKK,allOne_mapI,tk12 hs.1,dr12 hs.1,hs.1,tk12 htk.1,dr12 htk.1,htk.1,length_map,append_nil,Option.isSome_some,Option.isSome_none,Option.getD_some,Option.getD_none,tk12 hnk.1,dr12 hnk.1,hnk.1,tk12 hz,dr12 hz,hz]
     refine⟨some n,hlt,.base (by(first|exact wk_same (by simp only[go_sem,ic,Option.isSome_some,Option.getD_some])|(refine wk_drop ?_ ?_ ?_ ?_ ?_<;>simp only[go_sem,ic,Option.isSome_some,Option.getD_some]))),by rw[hstep];rfl,fun b hb=>by cases hb;exact hnk⟩
    |some b=>
     have hbk:=hxb b rfl
     have hns:=hnk.sum
     have hbs:=hbk.sum
     have i1:I64 (n.sum-b.sum)=True:=eq_true (by unfold I64;omega)
     have h46n:=c74 n hnk.1 hnk.bd
     have h46b:=c74 b hbk.1 hbk.bd
     have h47:=c78 n b hnk.1 hbk.1
     have h45:PC prog 77 [.lst false 1 [[.int .i64 (n.sum-b.sum)],[.int .i64 (befS n b 0 4)]]] (.int .i64 (cmpS n b)):=c77 _ _
     repeat' first|refine sP ?_ ?_<;>intro hb<;>(try rw[hb])<;>(try simp only[bb]at hb)<;>(try simp only[within]at hb)<;>try simp only[go_sem,fewR,hN,hlt',ht,encK,encKK,allOne_mapI,tk12 hs.1,dr12 hs.1,hs.1,tk12 htk.1,dr12 htk.1,htk.1,length_map,append_nil,Option.isSome_some,Option.isSome_none,Option.getD_some,Option.getD_none,tk12 hnk.1,dr12 hnk.1,hnk.1,tk12 hbk.1,dr12 hbk.1,hbk.1]|refine aI ?_|with_reducible refine dw sZ05b_f35 ?_|simp only[go_sem,fewR,hN,hlt',ht,encK,encKK,allOne_mapI,tk12 hs.1,dr12 hs.1,hs.1,tk12 htk.1,dr12 htk.1,htk.1,length_map,append_nil,Option.isSome_some,Option.isSome_none,Option.getD_some,Option.getD_none,tk12 hnk.1,dr12 hnk.1,hnk.1,tk12 hbk.1,dr12 hbk.1,hbk.1]
     refine dp h46n ⟨rfl,by(simp only[go_sem,pureL_mapI]),by(simp only[go_sem,frzL_mapI])⟩ ?_
     repeat' first|refine sP ?_ ?_<;>intro hb<;>(try rw[hb])<;>(try simp only[bb]at hb)<;>(try simp only[within]at hb)<;>try simp only[go_sem,fewR,hN,hlt',ht,encK,encKK,allOne_mapI,tk12 hs.1,dr12 hs.1,hs.1,tk12 htk.1,dr12 htk.1,htk.1,length_map,append_nil,Option.isSome_some,Option.isSome_none,Option.getD_some,Option.getD_none,tk12 hnk.1,dr12 hnk.1,hnk.1,tk12 hbk.1,dr12 hbk.1,hbk.1]|refine aI ?_|with_reducible refine dw sZ05b_f35 ?_|simp only[go_sem,fewR,hN,hlt',ht,encK,encKK,allOne_mapI,tk12 hs.1,dr12 hs.1,hs.1,tk12 htk.1,dr12 htk.1,htk.1,length_map,append_nil,Option.isSome_some,Option.isSome_none,Option.getD_some,Option.getD_none,tk12 hnk.1,dr12 hnk.1,hnk.1,tk12 hbk.1,dr12 hbk.1,hbk.1]
     refine dp h46b ⟨rfl,by(simp only[go_sem,pureL_mapI]),by(simp only[go_sem,frzL_mapI])⟩ ?_
     repeat' first|refine sP ?_ ?_<;>intro hb<;>(try rw[hb])<;>(try simp only[bb]at hb)<;>(try simp only[within]at hb)<;>try simp only[go_sem,fewR,hN,hlt',ht,encK,encKK,allOne_mapI,tk12 hs.1,dr12 hs.1,hs.1,tk12 htk.1,dr12 htk.1,htk.1,length_map,append_nil,Option.isSome_some,Option.isSome_none,Option.getD_some,Option.getD_none,i1,tk12 hnk.1,dr12 hnk.1,hnk.1,tk12 hbk.1,dr12 hbk.1,hbk.1]|refine aI ?_|with_reducible refine dw sZ05b_f35 ?_|simp only[go_sem,fewR,hN,hlt',ht,encK,encKK,allOne_mapI,tk12 hs.1,dr12 hs.1,hs.1,tk12 htk.1,dr12 htk.1,htk.1,length_map,append_nil,Option.isSome_some,Option.isSome_none,Option.getD_some,Option.getD_none,i1,tk12 hnk.1,dr12 hnk.1,hnk.1,tk12 hbk.1,dr12 hbk.1,hbk.1]
     refine dp h47 ⟨rfl,by(simp only[go_sem,pureL_mapI]),by(simp only[go_sem,frzL_mapI])⟩ ?_
     repeat' first|refine sP ?_ ?_<;>intro hb<;>(try rw[hb])<;>(try simp only[bb]at hb)<;>(try simp only[within]at hb)<;>try simp only[go_sem,fewR,hN,hlt',ht,encK,encKK,allOne_mapI,tk12 hs.1,dr12 hs.1,hs.1,tk12 htk.1,dr12 htk.1,htk.1,length_map,append_nil,Option.isSome_some,Option.isSome_none,Option.getD_some,Option.getD_none,i1,tk12 hnk.1,dr12 hnk.1,hnk.1,tk12 hbk.1,dr12 hbk.1,hbk.1]|refine aI ?_|with_reducible refine dw sZ05b_f35 ?_|simp only[go_sem,fewR,hN,hlt',ht,encK,encKK,allOne_mapI,tk12 hs.1,dr12 hs.1,hs.1,tk12 htk.1,dr12 htk.1,htk.1,length_map,append_nil,Option.isSome_some,Option.isSome_none,Option.getD_some,Option.getD_none,i1,tk12 hnk.1,dr12 hnk.1,hnk.1,tk12 hbk.1,dr12 hbk.1,hbk.1]
     refine dp h45 ⟨rfl,rfl,by(simp only[go_sem])⟩ ?_
     by_cases hlt:cmpS n b<0
     ·repeat' first|refine sP ?_ ?_<;>intro hb<;>(try rw[hb])<;>(try simp only[bb]at hb)<;>(try simp only[within]at hb)<;>try simp only[go_sem,fewR,hN,hlt',ht,encK,encKK,allOne_mapI,tk12 hs.1,dr12 hs.1,hs.1,tk12 htk.1,dr12 htk.1,htk.1,length_map,append_nil,Option.isSome_some,Option.isSome_none,Option.getD_some,Option.getD_none,i1,hlt,tk12 hnk.1,dr12 hnk.1,hnk.1,tk12 hbk.1,dr12 hbk.1,hbk.1]|refine aI ?_|with_reducible refine dw sZ05b_f35 ?_|simp only[go_sem,fewR,hN,hlt',ht,encK,encKK,allOne_mapI,tk12 hs.1,dr12 hs.1,hs.1,tk12 htk.1,dr12 htk.1,htk.1,length_map,append_nil,Option.isSome_some,Option.isSome_none,Option.getD_some,Option.getD_none,i1,hlt,tk12 hnk.1,dr12 hnk.1,hnk.1,tk12 hbk.1,dr12 hbk.1,hbk.1]
      refine⟨some n,by assumption,.base (by(first|exact wk_same (by simp only[go_sem,ic,Option.isSome_some,Option.getD_some])|(refine wk_drop ?_ ?_ ?_ ?_ ?_<;>simp only[go_sem,ic,Option.isSome_some,Option.getD_some]))),by rw[hstep];simp[stepB,hlt],fun b hb=>by cases hb;exact hnk⟩
     ·repeat' first|refine sP ?_ ?_<;>intro hb<;>(try rw[hb])<;>(try simp only[bb]at hb)<;>(try simp only[within]at hb)<;>try simp only[go_sem,fewR,hN,hlt',ht,encK,encKK,allOne_mapI,tk12 hs.1,dr12 hs.1,hs.1,tk12 htk.1,dr12 htk.1,htk.1,length_map,append_nil,Option.isSome_some,Option.isSome_none,Option.getD_some,Option.getD_none,i1,hlt,tk12 hnk.1,dr12 hnk.1,hnk.1,tk12 hbk.1,dr12 hbk.1,hbk.1]|refine aI ?_|with_reducible refine dw sZ05b_f35 ?_|simp only[go_sem,fewR,hN,hlt',ht,encK,encKK,allOne_mapI,tk12 hs.1,dr12 hs.1,hs.1,tk12 htk.1,dr12 htk.1,htk.1,length_map,append_nil,Option.isSome_some,Option.isSome_none,Option.getD_some,Option.getD_none,i1,hlt,tk12 hnk.1,dr12 hnk.1,hnk.1,tk12 hbk.1,dr12 hbk.1,hbk.1]
      refine⟨some b,by assumption,.base (by(first|exact wk_same (by simp only[go_sem,ic,Option.isSome_some,Option.getD_some])|(refine wk_drop ?_ ?_ ?_ ?_ ?_<;>simp only[go_sem,ic,Option.isSome_some,Option.getD_some]))),by rw[hstep];simp[stepB,hlt],fun b hb=>by cases hb;exact hbk⟩
  ·have hge': ¬(j:Int)<c.length:=by omega
   have:j=c.length:=by omega
   subst this
   rw[List.take_length]at hx
   subst hx
   repeat' first|refine sP ?_ ?_<;>intro hb<;>(try rw[hb])<;>(try simp only[bb]at hb)<;>(try simp only[within]at hb)<;>try simp only[go_sem,hge',allOne_mapI,tk12 hxk.1,dr12 hxk.1,hxk.1,length_map,append_nil,fewR,fewL,frzL_mapI]|refine aI ?_|with_reducible refine dw sZ05b_f35 ?_|simp only[go_sem,hge',allOne_mapI,tk12 hxk.1,dr12 hxk.1,hxk.1,length_map,append_nil,fewR,fewL,frzL_mapI]
def casesT(ms:List Mach):Nat→List Int
 |0=>[-1]
 |j+1=>casesT ms j++(if((ms[j]?).map fun m=>m.stops)=some 1 then [(j:Int)]else [])
def casesL(a:Hall):List Int:=casesT a.hs.ms a.hs.ms.length
theorem casesT_len(ms:List Mach): ∀j,(casesT ms j).length≤j+1
 |0=>by simp[casesT]
 |j+1=>by have:=casesT_len ms j;rw[casesT,length_append];split<;>simp<;>omega
set_option maxHeartbeats 2000000 in
theorem c39(a:Hall)(ha:okH a):PC prog 39 [hH a] (lN (casesL a)):=by
 have hm3:=ha.1.2.1
 refine pB Tryz.func39 fun hlen=>CV.run ?_
 simp only[Tryz.f39]
 simp only[go_sem,length_map,and_true,true_and]at hlen
 repeat' first|refine sP ?_ ?_<;>intro hb<;>(try rw[hb])<;>(try simp only[bb]at hb)<;>(try simp only[within]at hb)<;>try simp only[go_sem]|refine aI ?_|simp only[go_sem]
 refine vc_fx (fun j (b:Option Mach)=>⟨[(12,.int .i64 j),(11,.int .i64 a.hs.ms.length),(10,.lst false 3 (a.hs.ms.map encM)),(3,match b with|some _=> .row 2 (casesT a.hs.ms j).length|none=> .lst true 1 ((casesT a.hs.ms j).map encN)),(2,.nilS)],.box 86 (cH a) false::(match b with|some m=>[.box 110 (encM m) false,.row 3 1 ((casesT a.hs.ms j).map encN) false]|none=>[])⟩) a.hs.ms.length (fun _ _=>True) none (.base (by(first|exact wk_same (by simp only[go_sem,ic,casesT,encN,List.map_cons,map_nil])|(refine wk_drop ?_ ?_ ?_ ?_ ?_<;>simp only[go_sem,ic,casesT,encN,List.map_cons,map_nil])))) trivial ?_
 intro j b hj _
 have hl:=casesT_len a.hs.ms j
 rcases Nat.lt_or_ge j a.hs.ms.length with hlt|hge
 ·obtain⟨m,hm⟩:=get_of hlt
  have hlt':(j:Int)<a.hs.ms.length:=by omega
  by_cases hst:m.stops=1
  ·have e:casesT a.hs.ms (j+1)=casesT a.hs.ms j++[(j:Int)]:=by rw[casesT,hm,if_pos (by simp[hst])]
   cases b with
   |none=>
    repeat' first|refine sP ?_ ?_<;>intro hb<;>(try rw[hb])<;>(try simp only[bb]at hb)<;>(try simp only[within]at hb)<;>try simp only[go_sem,hlt',hm,hst,encM,length_map]|refine aI ?_|simp only[go_sem,hlt',hm,hst,encM,length_map]
    refine⟨⟨by omega,by omega,.inr (by simp)⟩,by unfold I64;omega,some m,hlt,.base (by(first|exact wk_same (by simp only[go_sem,ic,e,encM,hst,encN,map_append,length_append])|(refine wk_drop ?_ ?_ ?_ ?_ ?_<;>simp only[go_sem,ic,e,encM,hst,encN,map_append,length_append])))⟩
   |some m0=>
    repeat' first|refine sP ?_ ?_<;>intro hb<;>(try rw[hb])<;>(try simp only[bb]at hb)<;>(try simp only[within]at hb)<;>try simp only[go_sem,hlt',hm,hst,encM,length_map]|refine aI ?_|simp only[go_sem,hlt',hm,hst,encM,length_map]
    refine⟨some m0,hlt,.base (by(first|exact wk_same (by simp only[go_sem,ic,e,encM,encN,map_append,length_append])|(refine wk_drop ?_ ?_ ?_ ?_ ?_<;>simp only[go_sem,ic,e,encM,encN,map_append,length_append])))⟩
  ·have e:casesT a.hs.ms (j+1)=casesT a.hs.ms j:=by rw[casesT,hm,if_neg (by simp[hst]),append_nil]
   cases b with
   |none=>
    repeat' first|refine sP ?_ ?_<;>intro hb<;>(try rw[hb])<;>(try simp only[bb]at hb)<;>(try simp only[within]at hb)<;>try simp only[go_sem,hlt',hm,hst,encM,length_map]|refine aI ?_|simp only[go_sem,hlt',hm,hst,encM,length_map]
    refine⟨none,hlt,.base (by(first|exact wk_same (by simp only[go_sem,ic,e])|(refine wk_drop ?_ ?_ ?_ ?_ ?_<;>simp only[go_sem,ic,e])))⟩
   |some m0=>
    repeat' first|refine sP ?_ ?_<;>intro hb<;>(try rw[hb])<;>(try simp only[bb]at hb)<;>(try simp only[within]at hb)<;>try simp only[go_sem,hlt',hm,hst,encM,length_map]|refine aI ?_|simp only[go_sem,hlt',hm,hst,encM,length_map]
    refine⟨some m0,hlt,.base (by(first|exact wk_same (by simp only[go_sem,ic,e,encM])|(refine wk_drop ?_ ?_ ?_ ?_ ?_<;>simp only[go_sem,ic,e,encM])))⟩
 ·have hge': ¬(j:Int)<a.hs.ms.length:=by omega
  have:j=a.hs.ms.length:=by omega
  subst this
  cases b with
  |none=>
   repeat' first|refine sP ?_ ?_<;>intro hb<;>(try rw[hb])<;>(try simp only[bb]at hb)<;>(try simp only[within]at hb)<;>try simp only[go_sem,hge',casesL]|refine aI ?_|simp only[go_sem,hge',casesL]
  |some m0=>
   repeat' first|refine sP ?_ ?_<;>intro hb<;>(try rw[hb])<;>(try simp only[bb]at hb)<;>(try simp only[within]at hb)<;>try simp only[go_sem,hge',encM,length_map,frzE_self,pureN,casesL]|refine aI ?_|simp only[go_sem,hge',encM,length_map,frzE_self,pureN,casesL]
noncomputable def altsL(a:Hall):List Int→List (List (List (List Int)))
 |[]=>[[]]
 |c::cs=>(altN a c).flatMap fun l=>(altsL a cs).map fun r=>l::r
def fitL(a:Hall):List Int→List (List (List Int))→Prop
 |[],[]=>True
 |c::cs,l::ls=>l∈altN a c∧fitL a cs ls
 |_,_=>False
theorem mem_altsL{a:Hall}: ∀{cs:List Int} {ls:List (List (List Int))},ls∈altsL a cs↔fitL a cs ls
 |[],[]=>by simp[altsL,fitL]
 |[],_::_=>by simp[altsL,fitL]
 |c::cs,[]=>by simp[altsL,fitL]
 |c::cs,l::ls=>by
  have ih:=mem_altsL (a:=a) (cs:=cs) (ls:=ls)
  simp only[altsL,fitL,List.mem_flatMap,List.mem_map]
  constructor
  ·rintro⟨x,h1,y,h2,h3⟩
   cases h3
   exact⟨h1,ih.1 h2⟩
  ·rintro⟨h1,h2⟩
   exact⟨l,h1,ls,ih.2 h2,rfl⟩
theorem fitL_snoc{a:Hall}{l:List (List Int)}{c:Int}(h:l∈altN a c): ∀{cs:List Int} {ls:List (List (List Int))},fitL a cs ls→fitL a (cs++[c]) (ls++[l])
 |[],[],_=>⟨h,trivial⟩
 |[],_::_,h=>h.elim
 |_::_,[],h=>h.elim
 |_::cs,_::ls,⟨h1,h2⟩=>⟨h1,fitL_snoc h h2⟩
theorem fitL_len{a:Hall}: ∀{cs:List Int} {ls:List (List (List Int))},fitL a cs ls→ls.length=cs.length
 |[],[],_=>rfl
 |[],_::_,h=>h.elim
 |_::_,[],h=>h.elim
 |_::cs,_::ls,⟨_,h2⟩=>by simp[fitL_len h2]
theorem fitL_ok{a:Hall}(ha:okH a)(h3:a.hs.bs.length≤3): ∀{cs:List Int} {ls:List (List (List Int))},fitL a cs ls→ ∀l,l∈ls→l.length≤100000∧ ∀t,t∈l→okS t 3
 |[],[],_,l,hl=>by cases hl
 |[],_::_,h,_,_=>h.elim
 |_::_,[],h,_,_=>h.elim
 |c::cs,x::ls,⟨h1,h2⟩,l,hl=>by
  rcases List.mem_cons.1 hl with rfl|hl
  ·obtain⟨⟨q1,q2⟩,_⟩:=mem_altN.1 h1
   have p1:=foundN_len a c
   have p2:=plansG_len (stop:=c) ha.1 h3
   refine⟨by omega,fun t ht=>?_⟩
   obtain⟨e,he,rfl⟩:=List.mem_map.1 (q2 t ht)
   exact(foundN_ok ha c e he).1
  ·exact fitL_ok ha h3 h2 l hl
set_option maxHeartbeats 2000000 in
theorem c36(a:Hall)(ha:okH a)(h3:a.hs.bs.length≤3):PC prog 36 [hH a] (.alt ((altsL a (casesL a)).map lKK)):=by
 have hcl:(casesL a).length≤4:=by have:=casesT_len a.hs.ms a.hs.ms.length;have:=ha.1.2.1;unfold casesL;omega
 have h48:=c39 a ha
 refine PC.bodyA Tryz.func36 (by kernel_rfl) rfl (by simp[Tryz.f36]) ?_
 simp only[Tryz.f36]
 intro hlen
 simp only[go_sem,length_map,and_true,true_and]at hlen
 refine CV.run ?_
 repeat' first|refine sP ?_ ?_<;>intro hb<;>(try rw[hb])<;>(try simp only[bb]at hb)<;>(try simp only[within]at hb)<;>try simp only[go_sem]|refine aI ?_|with_reducible refine cq h48 ?_|simp only[go_sem]
 generalize casesL a=C at*
 refine vc_fx (fun j (x:List (List (List Int)))=>⟨[(8,.int .i64 j),(7,.int .i64 C.length),(6,lN C),(2,.row 1 x.length),(1,.lp 0 0)],[.box 86 (cH a) false,.row 101 1 (x.map encKK) false]⟩) C.length (fun j x=>fitL a (C.take j) x) [] (.nilE 2 101 1 (by(simp only[go_sem])) (by omega) (.base (by exact w0))) trivial ?_
 intro j x hj hx
 have hxl:=fitL_len hx
 rw[List.length_take]at hxl
 rcases Nat.lt_or_ge j C.length with hlt|hge
 ·obtain⟨c,hc⟩:=get_of hlt
  have hlt':(j:Int)<C.length:=by omega
  have h49:=c42 a ha h3 c
  repeat' first|refine sP ?_ ?_<;>intro hb<;>(try rw[hb])<;>(try simp only[bb]at hb)<;>(try simp only[within]at hb)<;>try simp only[go_sem,hlt',hc,encN]|refine aI ?_|simp only[go_sem,hlt',hc,encN]
  refine vcP_alt h49 (by(simp only[go_sem])) (by(simp only[go_sem])) ?_
  intro v hv
  obtain⟨l,hl,rfl⟩:=List.mem_map.1 hv
  have hs:=fitL_snoc hl hx
  rw[show C.take j++[c]=C.take (j+1) by rw[List.take_add_one,hc];rfl]at hs
  repeat' first|refine sP ?_ ?_<;>intro hb<;>(try rw[hb])<;>(try simp only[bb]at hb)<;>(try simp only[within]at hb)<;>try simp only[go_sem,length_map]|refine aI ?_|simp only[go_sem,length_map]
  exact⟨x++[l],hlt,.base (by(first|exact wk_same (by simp only[go_sem,ic,encKK,map_append,length_append])|(refine wk_drop ?_ ?_ ?_ ?_ ?_<;>simp only[go_sem,ic,encKK,map_append,length_append]))),hs⟩
 ·have hge': ¬(j:Int)<C.length:=by omega
  have:j=C.length:=by omega
  subst this
  rw[List.take_length]at hx
  repeat' first|refine sP ?_ ?_<;>intro hb<;>(try rw[hb])<;>(try simp only[bb]at hb)<;>(try simp only[within]at hb)<;>try simp only[go_sem,hge']|refine aI ?_|simp only[go_sem,hge']
  refine⟨lKK x,List.mem_map.2 ⟨x,mem_altsL.2 hx,rfl⟩,?_⟩
  (simp only[go_sem,pureKK,length_map])
end Go.Proofs.YtoadkchhimojlaaGreatDoor
