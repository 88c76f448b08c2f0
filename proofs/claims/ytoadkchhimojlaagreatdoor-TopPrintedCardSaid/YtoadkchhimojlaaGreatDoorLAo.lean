/- Contracts of functions of the given program, without a condition beyond those that each theorem states; they lead to the given statement. -/
import Derived.Test.YtoadkchhimojlaaGreatDoorLAn
import Derived.Test.YtoadkchhimojlaaGreatDoorLAl
set_option linter.unusedSectionVars false
set_option linter.unusedSimpArgs false
set_option linter.unusedVariables false
set_option maxRecDepth 100000
open List(getD_eq_getElem?_getD getElem?_append_right length_map map_cons map_nil mem_of_getElem? mem_singleton nil_append)
open Go.Proofs.Tryz(prog)
namespace Go.Proofs.YtoadkchhimojlaaGreatDoor
open Go Go.Fl
open Classical
noncomputable def fndK(s:List Int):List (List Int)→Nat→Int
 |[],_=> -1
 |t::l,i=>if misS s t=zer12 then i else fndK s l (i+1)
theorem fndK_ge{s:List Int}: ∀{l:List (List Int)} {i:Nat},(∃t,t∈l∧misS s t=zer12)→0≤fndK s l i
 |[],_,⟨_,h,_⟩=>by cases h
 |t::l,i,⟨u,h1,h2⟩=>by
  rw[fndK]
  split
  ·omega
  ·rename_i hn
   rcases List.mem_cons.1 h1 with rfl|h1
   ·exact absurd h2 hn
   ·exact fndK_ge ⟨u,h1,h2⟩
theorem c155(s:List Int)(hs:okS s 3)(ls:List (List Int))(hls: ∀t,t∈ls→okS t 3)(hn:ls.length≤100000):PC prog 155 [lK ls,.bf 82 [.agg (s.map I)]] (.int .i64 (fndK s ls 0)):=by
 refine pB Tryz.func155 fun hlen=>CV.run ?_
 simp only[Tryz.f155]
 simp only[go_sem,length_map,and_true,true_and]at hlen
 repeat' first|refine sP ?_ ?_<;>intro hb<;>(try rw[hb])<;>(try simp only[bb]at hb)<;>(try simp only[within]at hb)<;>try simp only[go_sem,length_map]|refine aI ?_|simp only[go_sem,length_map]
 refine vc_for (fun j=>⟨[(8,.int .i64 j),(7,.int .i64 ls.length),(0,lK ls),(1,.bf 82 [.agg (s.map I)])],[]⟩) ls.length (fun j=>fndK s ls 0=fndK s (ls.drop j) j) (by exact w0) rfl ?_
 intro j hj hx
 rcases Nat.lt_or_ge j ls.length with hlt|hge
 ·obtain⟨t,ht⟩:=get_of hlt
  have hlt':(j:Int)<ls.length:=by omega
  have hto:=hls t (mem_of_getElem? ht)
  have h82:=c82 s t hs.1 hto.1 fun a b ha hb=>by have:=hs.2 a ha;have:=hto.2 b hb;unfold I64;omega
  rw[drop_cons' ht,fndK]at hx
  by_cases hc:misS s t=zer12
  ·rw[if_pos hc]at hx
   rw[decide_eq_true hc]at h82
   repeat' first|refine sP ?_ ?_<;>intro hb<;>(try rw[hb])<;>(try simp only[bb]at hb)<;>(try simp only[within]at hb)<;>try simp only[go_sem,hlt',ht,hx,encK,tk12 hto.1,hto.1,length_map]|refine aI ?_|simp only[go_sem,hlt',ht,hx,encK,tk12 hto.1,hto.1,length_map]
   refine vcP_pure h82 rfl (by(simp only[go_sem,pureL_mapI,AV.pureL,AV.pure,Bool.and_self])) (by(simp only[go_sem,frzL_mapI])) ?_
   repeat' first|refine sP ?_ ?_<;>intro hb<;>(try rw[hb])<;>(try simp only[bb]at hb)<;>(try simp only[within]at hb)<;>try simp only[go_sem]|refine aI ?_|simp only[go_sem]
  ·rw[if_neg hc]at hx
   rw[decide_eq_false hc]at h82
   repeat' first|refine sP ?_ ?_<;>intro hb<;>(try rw[hb])<;>(try simp only[bb]at hb)<;>(try simp only[within]at hb)<;>try simp only[go_sem,hlt',ht,encK,tk12 hto.1,hto.1,length_map]|refine aI ?_|simp only[go_sem,hlt',ht,encK,tk12 hto.1,hto.1,length_map]
   refine vcP_pure h82 rfl (by(simp only[go_sem,pureL_mapI,AV.pureL,AV.pure,Bool.and_self])) (by(simp only[go_sem,frzL_mapI])) ?_
   repeat' first|refine sP ?_ ?_<;>intro hb<;>(try rw[hb])<;>(try simp only[bb]at hb)<;>(try simp only[within]at hb)<;>try simp only[go_sem]|refine aI ?_|simp only[go_sem]
   refine⟨?_,hx⟩
   exact w0
 ·have hge': ¬(j:Int)<ls.length:=by omega
  obtain rfl:j=ls.length:=by omega
  rw[List.drop_length,fndK]at hx
  repeat' first|refine sP ?_ ?_<;>intro hb<;>(try rw[hb])<;>(try simp only[bb]at hb)<;>(try simp only[within]at hb)<;>try simp only[go_sem,hge',hx]|refine aI ?_|simp only[go_sem,hge',hx]
theorem c81(s:List Int)(hs:okS s 3)(ls:List (List Int))(hls: ∀t,t∈ls→okS t 3)(hn:ls.length≤100000)(hx: ∃t,t∈ls∧misS s t=zer12):PC prog 81 [lK ls,.bf 82 [.agg (s.map I)]] (.bool true):=by
 have h:=c155 s hs ls hls hn
 have h0:=fndK_ge (i:=0) hx
 generalize fndK s ls 0=v at h h0
 refine pB Tryz.func81 fun hlen=>CV.run ?_
 simp only[Tryz.f81]
 simp only[go_sem,length_map,and_true,true_and]at hlen
 repeat' first|refine sP ?_ ?_<;>intro hb<;>(try rw[hb])<;>(try simp only[bb]at hb)<;>(try simp only[within]at hb)<;>try simp only[go_sem,h0]|refine aI ?_|simp only[go_sem,h0]
 refine vcP_pure h rfl (by(simp only[go_sem,pureL_mapI,AV.pureL,AV.pure,Bool.and_self])) (by(simp only[go_sem,frzL_mapI])) ?_
 repeat' first|refine sP ?_ ?_<;>intro hb<;>(try rw[hb])<;>(try simp only[bb]at hb)<;>(try simp only[within]at hb)<;>try simp only[go_sem,h0]|refine aI ?_|simp only[go_sem,h0]
theorem c41(s:List Int)(hs:okS s 3)(ls:List (List Int))(hls: ∀t,t∈ls→okS t 3)(hn:ls.length≤100000)(hx: ∃t,t∈ls∧misS s t=zer12):PC prog 41 [.agg (s.map I),lK ls] (.bool true):=by
 have h:=c81 s hs ls hls hn hx
 refine pB Tryz.func41 fun hlen=>CV.run ?_
 simp only[Tryz.f41]
 simp only[go_sem,length_map,and_true,true_and]at hlen
 repeat' first|refine sP ?_ ?_<;>intro hb<;>(try rw[hb])<;>(try simp only[bb]at hb)<;>(try simp only[within]at hb)<;>try simp only[go_sem,allOne_mapI,tk12 hs.1,dr12 hs.1,hs.1,length_map,List.append_nil]|refine aI ?_|simp only[go_sem,allOne_mapI,tk12 hs.1,dr12 hs.1,hs.1,length_map,List.append_nil]
 refine vcP_pure h rfl (by(simp only[go_sem,pureL_mapI,AV.pureL,AV.pure,Bool.and_self])) (by(simp only[go_sem,frzL_mapI])) ?_
 repeat' first|refine sP ?_ ?_<;>intro hb<;>(try rw[hb])<;>(try simp only[bb]at hb)<;>(try simp only[within]at hb)<;>try simp only[go_sem]|refine aI ?_|simp only[go_sem]
def leS(s t:List Int):Prop:= ∀k:Nat,k<12→gv s k≤gv t k
theorem mis_le{s t:List Int}(hs:s.length=12)(ht:t.length=12)(h:leS t s):misS s t=zer12:=by
 obtain⟨a0,a1,a2,a3,a4,a5,a6,a7,a8,a9,a10,a11,rfl⟩:=shelf12 hs
 obtain⟨b0,b1,b2,b3,b4,b5,b6,b7,b8,b9,b10,b11,rfl⟩:=shelf12 ht
 have q0:=h 0 (by decide);have q1:=h 1 (by decide);have q2:=h 2 (by decide);have q3:=h 3 (by decide);have q4:=h 4 (by decide);have q5:=h 5 (by decide);have q6:=h 6 (by decide);have q7:=h 7 (by decide);have q8:=h 8 (by decide);have q9:=h 9 (by decide);have q10:=h 10 (by decide);have q11:=h 11 (by decide)
 simp[gv]at q0 q1 q2 q3 q4 q5 q6 q7 q8 q9 q10 q11
 simp only[misS,zipS,List.zipWith_cons_cons,List.zipWith_nil_left,zer12]
 refine List.cons_eq_cons.2 ⟨by omega,?_⟩
 repeat (refine List.cons_eq_cons.2 ⟨by omega,?_⟩)
 rfl
theorem gv_zip{s t:List Int}(hs:s.length=12)(ht:t.length=12){k:Nat}(hk:k<12):gv (zipS max s t) k=max (gv s k) (gv t k):=by
 obtain⟨a,ha⟩:=get_of (l:=s) (j:=k) (by omega)
 obtain⟨b,hb⟩:=get_of (l:=t) (j:=k) (by omega)
 have:(zipS max s t)[k]? =some (max a b):=by simp[zipS,List.getElem?_zipWith,ha,hb]
 rw[gv_nat this,gv_nat ha,gv_nat hb]
theorem reach_le: ∀{cs:List (List (List Int))} {s b:List Int},len12 cs→s.length=12→reach cs s b→leS s b∧ ∀c,c∈cs→ ∃t,t∈c∧leS t b
 |[],s,b,_,_,h=>by
  obtain rfl:b=s:=h
  exact⟨fun k hk=>Int.le_refl _,fun c hc=>by cases hc⟩
 |c::cs,s,b,hc,hs,⟨t,h1,h2⟩=>by
  have htl:=hc c (by simp) t h1
  obtain⟨p1,p2⟩:leS (zipS max s t) b∧_:=reach_le (fun c hc'=>hc c (by simp[hc'])) (zipS_len hs htl) h2
  refine⟨fun k hk=>?_,fun d hd=>?_⟩
  ·have:=p1 k hk;rw[gv_zip hs htl hk]at this;omega
  ·rcases List.mem_cons.1 hd with rfl|hd
   ·exact⟨t,h1,fun k hk=>by have:=p1 k hk;rw[gv_zip hs htl hk]at this;omega⟩
   ·exact p2 d hd
def sZ13e_f14:Nat→List (Nat×Nat)
 |1=>[(0,0),(0,0),(0,0),(0,0),(0,0),(0,0),(0,1),(0,0),(0,0),(1,1)]
 |8=>[(0,0),(0,0),(0,0),(0,0),(0,0),(0,0),(0,0)]
 |_=>[]
attribute [go_sem] sZ13e_f14
theorem len_can{a:Hall}(ha:okH a)(h3:a.hs.bs.length≤3):len12 (canL a):=ok_len12 fun c hc t ht=>(fitL_ok ha h3 (fit_can a _) c hc).2 t ht
theorem does_all{a:Hall}(ha:okH a)(h3:a.hs.bs.length≤3){s:List Int}(hf:fewL (canL a) zer12=some s){c:Int}(hc:c∈casesL a){ls:List (List Int)}(hl:ls∈altN a c): ∃t,t∈ls∧misS s t=zer12:=by
 have hb:=fewL_best (canL a) zer12 (len_can ha h3) rfl
 rw[hf]at hb
 obtain⟨_,h2⟩:=reach_le (len_can ha h3) rfl hb.1
 have hs:=can_ok ha h3 s hf
 obtain⟨t,h1,h4⟩:=h2 (canC a c) (List.mem_map.2 ⟨c,hc,rfl⟩)
 exact⟨t,((mem_altN.1 hl).2 t).2 ((canC_good a c t).1 h1),mis_le hs.1 (len_can ha h3 _ (List.mem_map.2 ⟨c,hc,rfl⟩) t h1) h4⟩
theorem alt_ok{a:Hall}(ha:okH a)(h3:a.hs.bs.length≤3){c:Int}{ls:List (List Int)}(hl:ls∈altN a c):ls.length≤100000∧ ∀t,t∈ls→okS t 3:=
 fitL_ok (cs:=[c]) (ls:=[ls]) ha h3 ⟨hl,trivial⟩ ls (by simp)
set_option maxHeartbeats 2000000 in
theorem c14(a:Hall)(ha:okH a)(h3:a.hs.bs.length≤3)(s:List Int)(hf:fewL (canL a) zer12=some s):PC prog 14 [hH a,.lst false 3 ((setTo s 12).map encS)] (.tup [.nilS,.int .i64 0]):=by
 have hs:=can_ok ha h3 s hf
 have hset:=(setTo_ok hs 12 (Nat.le_refl _)).1
 have h38:=c38 _ hset (setTo_len s 12)
 have h34:=c34 a ha
 have h39:=c39 a ha
 have h40:=c40 _ hset
 rw[putL_all hs]at h40
 have hcl:(casesL a).length≤4:=by have:=casesT_len a.hs.ms a.hs.ms.length;have:=ha.1.2.1;unfold casesL;omega
 have h41: ∀c,c∈casesL a→PC prog 41 [.agg (s.map I),.alt ((altN a c).map lK)] (.bool true):=fun c hc=>
  PC.altArg [.agg (s.map I)] [] (List.ne_nil_of_mem (List.mem_map.2 ⟨_,canC_alt a c,rfl⟩)) fun u hu=>by
   obtain⟨ls,hls,rfl⟩:=List.mem_map.1 hu
   have hk:=alt_ok ha h3 hls
   exact c41 s hs ls hk.2 hk.1 (does_all ha h3 hf hc hls)
 refine pB Tryz.func14 fun hlen=>CV.run ?_
 simp only[Tryz.f14]
 simp only[go_sem,length_map,and_true,true_and]at hlen
 repeat' first|refine sP ?_ ?_<;>intro hb<;>(try rw[hb])<;>(try simp only[bb]at hb)<;>(try simp only[within]at hb)<;>try simp only[go_sem]|refine aI ?_|with_reducible refine dw sZ13e_f14 ?_|with_reducible refine cq h38 ?_|with_reducible refine cq h34 ?_|with_reducible refine cq h39 ?_|simp only[go_sem]
 refine vc_for (fun j=>⟨[(24,.int .i64 j),(23,.int .i64 (casesL a).length),(22,lN (casesL a)),(8,.nilS),(6,.lp 1 0),(5,.int .i64 0),(4,.nilS),(1,.lst false 3 ((setTo s 12).map encS))],[.box 29 (cH a) false,.box 86 (cH a) false]⟩) (casesL a).length (fun _=>True) (by exact w0) trivial ?_
 intro j hj _
 rcases Nat.lt_or_ge j (casesL a).length with hlt|hge
 ·obtain⟨c,hc⟩:=get_of hlt
  have hlt':(j:Int)<(casesL a).length:=by omega
  have h42:=c42 a ha h3 c
  have h41c:=h41 c (mem_of_getElem? hc)
  repeat' first|refine sP ?_ ?_<;>intro hb<;>(try rw[hb])<;>(try simp only[bb]at hb)<;>(try simp only[within]at hb)<;>try simp only[go_sem,hlt',hc,encN]|refine aI ?_|with_reducible refine dw sZ13e_f14 ?_|simp only[go_sem,hlt',hc,encN]
  refine dp h40 ⟨pureL_mapI _,rfl,by(simp only[go_sem])⟩ ?_
  repeat' first|refine sP ?_ ?_<;>intro hb<;>(try rw[hb])<;>(try simp only[bb]at hb)<;>(try simp only[within]at hb)<;>try simp only[go_sem,hlt',hc,encN,pureL_mapI]|refine aI ?_|with_reducible refine dw sZ13e_f14 ?_|simp only[go_sem,hlt',hc,encN,pureL_mapI]
  refine dp h42 ⟨rfl,rfl,by(simp only[go_sem])⟩ ?_
  repeat' first|refine sP ?_ ?_<;>intro hb<;>(try rw[hb])<;>(try simp only[bb]at hb)<;>(try simp only[within]at hb)<;>try simp only[go_sem,hlt',hc,encN,pureL_mapI]|refine aI ?_|with_reducible refine dw sZ13e_f14 ?_|simp only[go_sem,hlt',hc,encN,pureL_mapI]
  refine dp h41c ⟨rfl,by(simp only[go_sem,pureL_mapI,AV.pureL,AV.pure,Bool.and_self]),by(simp only[go_sem,frzL_mapI])⟩ ?_
  repeat' first|refine sP ?_ ?_<;>intro hb<;>(try rw[hb])<;>(try simp only[bb]at hb)<;>(try simp only[within]at hb)<;>try simp only[go_sem,hlt',hc,encN,pureL_mapI,frzL_mapI]|refine aI ?_|with_reducible refine dw sZ13e_f14 ?_|simp only[go_sem,hlt',hc,encN,pureL_mapI,frzL_mapI]
  exact w0
 ·have hge': ¬(j:Int)<(casesL a).length:=by omega
  obtain rfl:j=(casesL a).length:=by omega
  repeat' first|refine sP ?_ ?_<;>intro hb<;>(try rw[hb])<;>(try simp only[bb]at hb)<;>(try simp only[within]at hb)<;>try simp only[go_sem,hge']|refine aI ?_|with_reducible refine dw sZ13e_f14 ?_|simp only[go_sem,hge']
end Go.Proofs.YtoadkchhimojlaaGreatDoor
namespace Go.Proofs.YtoadkchhimojlaaGreatDoor.OV
open Go Go.Fl
open Classical
theorem dd_dig: ∀u:Nat,∀ c,c∈Lib.decDigits u→48≤c.toNat∧c.toNat≤57:=by
 intro u
 induction u using Nat.strongRecOn with
 |ind u ih=>
  intro c hc
  rw[Lib.decDigits]at hc
  have hd: ∀k,k<10→(UInt8.ofNat (48+k)).toNat=48+k:=fun k hk=>by rw[UInt8.toNat_ofNat'];omega
  split at hc
  ·rename_i h
   simp only[mem_singleton]at hc
   subst hc;rw[hd u h];omega
  ·rename_i h
   rcases List.mem_append.1 hc with hc|hc
   ·exact ih (u / 10) (by omega) c hc
   ·simp only[mem_singleton]at hc
    subst hc;rw[hd _ (by omega)];omega
theorem dd_ne(u:Nat):Lib.decDigits u≠[]:=by rw[Lib.decDigits];split<;>simp
theorem getD0_app{a b:Str}(h:a≠[]):(a++b).getD 0 0=a.getD 0 0:=by cases a with
 |nil=>exact absurd rfl h
 |cons x r=>rfl
theorem dd_head: ∀u:Nat,1≤u→(Lib.decDigits u).getD 0 0≠48:=by
 intro u
 induction u using Nat.strongRecOn with
 |ind u ih=>
  intro h1
  rw[Lib.decDigits]
  split
  ·rename_i h
   intro e
   have e2:(UInt8.ofNat (48+u)).toNat=(48:UInt8).toNat:=congrArg UInt8.toNat e
   rw[UInt8.toNat_ofNat']at e2
   have:(48:UInt8).toNat=48:=rfl
   omega
  ·rename_i h
   rw[getD0_app (dd_ne _)]
   exact ih (u / 10) (by omega) (by omega)
theorem dd_45(u:Nat):(Lib.decDigits u).getD 0 0≠45:=by
 intro e
 have hm:(Lib.decDigits u).getD 0 0∈Lib.decDigits u:=by
  cases h:Lib.decDigits u with
  |nil=>exact absurd h (dd_ne u)
  |cons x r=>simp
 have:=(dd_dig u _ hm).1
 rw[e]at this
 exact absurd this (by decide)
theorem trim_no{w:Str}(h:w.getD 0 0≠45):Lib.trimPrefix w [45]=w:=by
 cases w with
 |nil=>rfl
 |cons x r=>
  have:x≠45:=h
  simp[Lib.trimPrefix,Lib.hasPrefix,List.isPrefixOf,this.symm]
theorem trim_yes(r:Str):Lib.trimPrefix (45::r) [45]=r:=by simp[Lib.trimPrefix,Lib.hasPrefix,List.isPrefixOf]
theorem num_isN{w:Str}(h:(numF w).isSome=true):isN w:=by
 unfold numF at h
 split at h
 ·rename_i v _
  by_cases hc:Lib.itoa v=w∧(Lib.trimPrefix w [45]).length≤6
  ·obtain⟨h1,h2⟩:=hc
   by_cases hv:v<0
   ·have e:w=45::Lib.decDigits v.natAbs:=by rw[←h1,Lib.itoa,if_pos hv]
    have hm:magS w=Lib.decDigits v.natAbs:=by rw[magS,e];rfl
    have hs:sgnS w= -1:=by rw[sgnS,e];rfl
    rw[e,trim_yes]at h2
    refine⟨?_,?_⟩
    ·rw[hm,hs]
     exact⟨by have:=List.length_pos_iff.2 (dd_ne v.natAbs);omega,h2,fun q=>dd_head _ (by omega) q.1⟩
    ·rw[hm];exact dd_dig _
   ·have e:w=Lib.decDigits v.toNat:=by rw[←h1,Lib.itoa,if_neg hv]
    have h45:w.getD 0 0≠45:=by rw[e];exact dd_45 _
    have hm:magS w=w:=if_neg h45
    have hs:sgnS w=1:=if_neg h45
    rw[trim_no h45]at h2
    refine⟨?_,?_⟩
    ·rw[hm,hs]
     refine⟨by rw[e];have:=List.length_pos_iff.2 (dd_ne v.toNat);omega,h2,fun q=>?_⟩
     obtain⟨q1,q2⟩:=q
     by_cases h0:1≤v.toNat
     ·rw[e]at q1;exact dd_head _ h0 q1
     ·have:w.length=1:=by rw[e,Lib.decDigits,dif_pos (by omega)];rfl
      omega
    ·rw[hm,e];exact dd_dig _
  ·simp[hc]at h
 ·cases h
theorem num_allR{r:List Str}(h:allNum r):allR r:=fun w hw=>num_isN (h w hw)
theorem opK_118{k:Str}(h:opK k=118):k=[98,117,110,100,108,101,51]:=by
 unfold opK at h
 repeat' split at h
 all_goals first
  |assumption
  |simp at h
theorem op118{ws:List Str}(hl:ws.length≤61)(h:opN ws=118):ws.headD []=bundleT∧ws.tail.length=3∧allNum ws.tail:=by
 have hA:=opN_num (by rw[h];decide:opN ws≠0)
 rw[show opN ws=opK (key ws)from if_pos hA]at h
 obtain⟨q1,q2⟩:=key_at (x:=[98,117,110,100,108]) (c:=101) (k:=3) hl (by decide) (by decide) (opK_118 h)
 exact⟨q1,q2,hA⟩
theorem many_bundle:manyF bundleT=(3,-1):=by unfold manyF bundleT;simp
theorem many_line:manyF lineT=(-1,-1):=by unfold manyF lineT;simp
theorem words_118{ws:List Str}(hl:ws.length≤61)(h:opN ws=118):(wordsF ws).kind=1∧(wordsF ws).word=bundleT:=by
 obtain⟨h1,h2,h3⟩:=op118 hl h
 unfold wordsF
 rw[if_pos (num_allR h3),h1,many_bundle,h2,if_pos (by decide)]
 exact⟨rfl,rfl⟩
theorem words_line{w1:Str}{r:List Str}:(wordsF (lineT::w1::isT::r)).kind=0:=by
 unfold wordsF
 split
 ·rw[show(lineT::w1::isT::r).headD []=lineT from rfl,many_line]
  have h1: ¬((lineT::w1::isT::r).tail.length:Int)= -1:=by omega
  rw[if_neg h1,if_neg h1];rfl
 ·rfl
theorem isB_entry{s:Str}(hl:(splitP s).length≤61)(h:opN (splitP s)=118):isB s=true:=by
 obtain⟨h1,h2⟩:=words_118 hl h
 unfold isB readF
 rw[decide_eq_true_eq,readP,if_pos (by rw[h1];decide)]
 exact h2
theorem isB_cor{s:Str}{w1:Str}{w2:List Str}(hw:splitP s=lineT::w1::isT::w2)(hl:w2.length≤61)(hA:allNum [w1])(h:opN w2=118):isB s=true:=by
 obtain⟨h1,h2⟩:=words_118 hl h
 obtain⟨_,h4,_⟩:=op118 hl h
 have hlen:w2.length=4:=by rw[List.length_tail]at h4;omega
 have hn:=num_isN (hA w1 (by simp))
 have hk:(wordsF (splitP s)).kind=0:=by rw[hw];exact words_line
 unfold isB readF
 rw[decide_eq_true_eq,readP,if_neg (by rw[hk];simp),hw]
 have e1:(lineT::w1::isT::w2).getD 1 []=w1:=rfl
 have e0:(lineT::w1::isT::w2).getD 0 []=lineT:=rfl
 have e2:(lineT::w1::isT::w2).getD 2 []=isT:=rfl
 have e3:(lineT::w1::isT::w2).drop 3=w2:=rfl
 have el:(lineT::w1::isT::w2).length=7:=by simp only[List.length_cons];omega
 rw[e1,e0,if_neg (by rintro(q|q);omega;exact q hn),restF,if_neg (by decide),if_neg (by decide),if_pos rfl,e2,e3,el,if_neg (by rintro(q|q);omega;exact q rfl),if_neg (by omega),if_pos h1]
 exact h2
theorem doF_bs{op:Nat}{a:List Int}{c:Bool}{t t':Town}(h:doF op a c t=some t'):t'.h.bs.length≤t.h.bs.length+(if op=118 then 1 else 0):=by
 unfold doF at h
 split at h
 all_goals first
  |(simp only[Option.some.injEq]at h;subst h;simp)
  |(split at h<;>first|(simp only[Option.some.injEq]at h;subst h;simp)|cases h)
  |cases h
theorem onF_bs{ws:List Str}{t:Town}:(onF (dW ws t) t).1.h.bs.length≤t.h.bs.length+(if opN ws=118 then 1 else 0):=by
 unfold onF
 cases h:dW ws t with
 |none=>simp
 |some t'=>
  simp only
  split
  ·exact doF_bs h
  ·simp
noncomputable def recB(r:Rec):Nat:=match r.reads with
 |none=>0
 |some ws=>if opN ws=118 then 1 else 0
noncomputable def cntR:List Rec→Nat
 |[]=>0
 |r::rs=>recB r+cntR rs
theorem cntR_app: ∀(a b:List Rec),cntR (a++b)=cntR a+cntR b
 |[],b=>by simp[cntR]
 |r::a,b=>by simp only[List.cons_append,cntR,cntR_app a b];omega
theorem goT_bs(t:Town)(r:Rec):(goT t r).1.h.bs.length≤t.h.bs.length+recB r:=by
 unfold goT recB
 split
 ·rename_i h;rw[h];simp
 ·rename_i ws h;rw[h];exact onF_bs
theorem town_bs(line:Int): ∀(rs:List Rec) (t:Town),(townF line t rs).h.bs.length≤t.h.bs.length+cntR rs
 |[],t=>by simp[townF,cntR]
 |r::rs,t=>by
  rw[townF,cntR]
  split
  ·omega
  ·have h1:=town_bs line rs (goT t r).1
   have h2:=goT_bs t r
   omega
theorem cntR_mod(e:Option (List Str)): ∀(rs:List Rec) (i:Nat),cntR (rs.modify i fun r=>⟨r.line,e⟩)≤cntR rs+recB ⟨0,e⟩
 |[],i=>by simp[cntR]
 |r::rs,0=>by
  simp only[List.modify_zero_cons,cntR]
  have:recB ⟨r.line,e⟩=recB ⟨0,e⟩:=rfl
  omega
 |r::rs,i+1=>by
  have:=cntR_mod e rs i
  simp only[List.modify_succ_cons,cntR];omega
theorem step_cnt{i:Int}{s:Str}{rs rs':List Rec}(hl:(splitP s).length≤61)(h:StepR i (splitP s) rs rs'):cntR rs'≤cntR rs+(if isB s=true then 1 else 0):=by
 rcases h with⟨q,rfl⟩|⟨q,rfl⟩|⟨q,n,e,rfl,he⟩
 ·rw[cntR_app]
  have:cntR [(⟨i,some (splitP s)⟩:Rec)]=if opN (splitP s)=118 then 1 else 0:=by simp[cntR,recB]
  rw[this]
  by_cases hb:opN (splitP s)=118
  ·rw[if_pos hb,if_pos (isB_entry hl hb)];omega
  ·rw[if_neg hb];omega
 ·omega
 ·have hrec:recB ⟨0,e⟩≤if isB s=true then 1 else 0:=by
   cases e with
   |none=>simp[recB]
   |some w2=>
    obtain⟨_,h2,w1,h3,h4⟩:=he
    simp only[recB]
    by_cases hb:opN w2=118
    ·rw[if_pos hb,if_pos (isB_cor h3 h2 h4 hb)];omega
    ·rw[if_neg hb];omega
  unfold corR
  split
  ·omega
  ·have:=cntR_mod e rs (findI n i rs 0).toNat;omega
theorem cntB_snoc(l:List Str)(s:Str):cntB (l++[s])=cntB l+(if isB s=true then 1 else 0):=by
 unfold cntB
 rw[List.filter_append,List.length_append]
 congr 1
 by_cases h:isB s=true<;>simp[h]
theorem run_cnt(t:Town){ls:List Str}(hs:shortW ls): ∀j,j≤ls.length→cntR (runTo t ls j).2≤cntB (ls.take j)
 |0,_=>by simp[runTo,cntR]
 |j+1,hj=>by
  obtain⟨w,hw⟩:=get_of (show j<ls.length by omega)
  have hg:ls.getD j []=w:=by simp[List.getD,hw]
  have ht:ls.take (j+1)=ls.take j++[w]:=by rw[List.take_add_one,hw];rfl
  have hl:(splitP w).length≤61:=by have:=splitP_len w;have:=hs w (mem_of_getElem? hw);omega
  have h1:=run_cnt t hs j (by omega)
  rw[ht,cntB_snoc,runTo,hg]
  have h2:=step_cnt hl (doA_step t (runTo t ls j).2 j (splitP w) hl)
  simp only;omega
theorem run_bs(t:Town){ls:List Str}(hs:shortW ls):(townF ls.length t (runTo t ls ls.length).2).h.bs.length≤t.h.bs.length+cntB ls:=by
 have h1:=town_bs ls.length (runTo t ls ls.length).2 t
 have h2:=run_cnt t hs ls.length (Nat.le_refl _)
 rw[List.take_length]at h2
 omega
theorem runU{α:Type}{st:Unit→α→Unit×Bool}: ∀(L:List α),(runC st () L).2=true↔ ∀a,a∈L→(st () a).2=true
 |[]=>by simp[runC]
 |a::L=>by
  rw[runC]
  by_cases h:(st () a).2=true
  ·rw[if_pos h]
   have:=runU (st:=st) L
   constructor
   ·intro q b hb
    rcases List.mem_cons.1 hb with rfl|hb
    ·exact h
    ·exact this.1 q b hb
   ·intro q;exact this.2 fun b hb=>q b (by simp[hb])
  ·rw[if_neg h]
   constructor
   ·intro q;cases q
   ·intro q;exact absurd (q a (by simp)) h
theorem can_iff{h:House}{but stop:Int}:T4.canG h but stop=true↔ ∃p,p∈plansG h stop∧T4.butN h but p=0:=by
 have hu:=runU (st:=T4.stB h but) (plansG h stop)
 unfold T4.canG
 rw[Bool.not_eq_true',← Bool.not_eq_true,hu]
 constructor
 ·intro q
  refine Classical.byContradiction fun n=>q fun p hp=>?_
  have:T4.butN h but p≠0:=fun e=>n ⟨p,hp,e⟩
  simp[T4.stB,this]
 ·rintro⟨p,hp,e⟩ q
  have:=q p hp
  simp[T4.stB,e]at this
theorem sure_iff{h:House}{but:Int}:T4.sureG h but=true↔ ∀stop,stop∈T4.casesG h→ ∃p,p∈plansG h stop∧T4.butN h but p=0:=by
 unfold T4.sureG
 rw[runU]
 exact forall_congr' fun stop=>imp_congr_right fun _=>can_iff
theorem and_all(x:Nat)(h:x<16):x &&& 18446744073709551615=x:=by
 have: ∀y,y<16→y &&& 18446744073709551615=y:=by decide
 exact this x h
theorem but0{h:House}(hk:okG h){p:List (List Int)}:T4.butN h 0 p=0↔ltG h (rdy h (tim h p))=0:=by
 obtain⟨l0,l1⟩:=T4.lt_bd hk (rdy h (tim h p))
 unfold T4.butN
 rw[show(18446744073709551615-(0:Int).toNat)=18446744073709551615 from rfl,and_all _ (by omega)]
 omega
theorem bits0{s:Int}(h0:0≤s)(h1:s<16):(bitsP s 4).length=0↔s=0:=by
 have:s=0∨s=1∨s=2∨s=3∨s=4∨s=5∨s=6∨s=7∨s=8∨s=9∨s=10∨s=11∨s=12∨s=13∨s=14∨s=15:=by omega
 rcases this with rfl|rfl|rfl|rfl|rfl|rfl|rfl|rfl|rfl|rfl|rfl|rfl|rfl|rfl|rfl|rfl<;>decide
theorem late0{h:House}(hk:okG h){p:List (List Int)}:(lateP h p).length=0↔T4.butN h 0 p=0:=by
 obtain⟨l0,l1⟩:=T4.lt_bd hk (rdy h (tim h p))
 rw[but0 hk,lateP,bits0 l0 l1]
theorem mem_casesT{ms:List Mach}{x:Int}: ∀{j:Nat},x∈casesT ms j↔x= -1∨ ∃i:Nat,i<j∧x=i∧ ∃m,ms[i]? =some m∧m.stops=1
 |0=>by simp[casesT]
 |j+1=>by
  rw[casesT,List.mem_append,mem_casesT]
  constructor
  ·rintro((h|⟨i,h1,h2⟩)|h)
   ·exact .inl h
   ·exact .inr ⟨i,by omega,h2⟩
   ·split at h
    ·rename_i hm
     simp only[mem_singleton]at h
     cases e:ms[j]? with
     |none=>rw[e]at hm;simp at hm
     |some m=>rw[e]at hm;exact .inr ⟨j,by omega,h,m,e,by simpa using hm⟩
    ·simp at h
  ·rintro(h|⟨i,h1,h2,m,h3,h4⟩)
   ·exact .inl (.inl h)
   ·by_cases hij:i=j
    ·subst hij
     exact .inr (by rw[h3];simp[h4,h2])
    ·exact .inl (.inr ⟨i,by omega,h2,m,h3,h4⟩)
theorem mem_caseF{x:Int}: ∀{ms:List Mach} {k:Nat},x∈T4.caseF ms k↔ ∃i:Nat,x=(k+i:Nat)∧ ∃m,ms[i]? =some m∧m.stops=1
 |[],k=>by simp[T4.caseF]
 |m::ms,k=>by
  rw[T4.caseF,List.mem_append,mem_caseF]
  constructor
  ·rintro(h|⟨i,h1,h2⟩)
   ·split at h
    ·rename_i hm
     simp only[mem_singleton]at h
     exact⟨0,by simpa using h,m,rfl,hm⟩
    ·simp at h
   ·exact⟨i+1,by rw[h1];congr 1;omega,by simpa using h2⟩
  ·rintro⟨i,h1,n,h2,h3⟩
   cases i with
   |zero=>
    simp only[List.getElem?_cons_zero,Option.some.injEq]at h2
    subst h2
    exact .inl (by rw[if_pos h3,h1];simp)
   |succ i=>exact .inr ⟨i,by rw[h1];congr 1;omega,n,by simpa using h2,h3⟩
theorem cases_same(a:Hall)(x:Int):x∈casesL a↔x∈T4.casesG a.hs:=by
 rw[casesL,mem_casesT,T4.casesG,List.mem_cons,mem_caseF]
 refine or_congr_right ⟨?_,?_⟩
 ·rintro⟨i,h1,h2,m,h3,h4⟩
  exact⟨i,by rw[h2];congr 1;omega,m,h3,h4⟩
 ·rintro⟨i,h1,m,h3,h4⟩
  exact⟨i,(List.getElem?_eq_some_iff.1 h3).1,by rw[h1];congr 1;omega,m,h3,h4⟩
theorem addF_ne(F:List (List Int×Int))(k:List Int):addF F k≠[]:=by
 intro h
 have h1:=idR_lt F k
 have h2:(addF F k).length=(upR F k).length:=by unfold addF stR;simp
 rw[h]at h2
 simp at h2;omega
theorem fold_ne{a:Hall}: ∀{L:List (List (List Int))} {F:List (List Int×Int)},F≠[]→L.foldl (stN a) F≠[]
 |[],_,h=>h
 |p::L,F,h=>by
  rw[List.foldl_cons]
  refine fold_ne ?_
  unfold stN
  split
  ·exact addF_ne _ _
  ·exact h
theorem found_iff{a:Hall}: ∀{L:List (List (List Int))},L.foldl (stN a) []≠[]↔ ∃p,p∈L∧(lateP a.hs p).length=0
 |[]=>by simp
 |p::L=>by
  rw[List.foldl_cons]
  by_cases hp:(lateP a.hs p).length=0
  ·rw[stN,if_pos hp]
   exact⟨fun _=>⟨p,by simp,hp⟩,fun _=>fold_ne (addF_ne _ _)⟩
  ·rw[stN,if_neg hp,found_iff]
   constructor
   ·rintro⟨q,h1,h2⟩;exact⟨q,by simp[h1],h2⟩
   ·rintro⟨q,h1,h2⟩
    rcases List.mem_cons.1 h1 with rfl|h1
    ·exact absurd h2 hp
    ·exact⟨q,h1,h2⟩
theorem least_sum: ∀{K:List (List Int)},K≠[]→ ∃s,s∈K∧ ∀t,t∈K→s.sum≤t.sum
 |[],h=>absurd rfl h
 |s::K,_=>by
  by_cases hk:K=[]
  ·subst hk;exact⟨s,by simp,fun t ht=>by simp at ht;subst ht;exact Int.le_refl _⟩
  ·obtain⟨u,h1,h2⟩:=least_sum hk
   by_cases q:s.sum≤u.sum
   ·refine⟨s,by simp,fun t ht=>?_⟩
    rcases List.mem_cons.1 ht with rfl|ht
    ·exact Int.le_refl _
    ·have:=h2 t ht;omega
   ·refine⟨u,by simp[h1],fun t ht=>?_⟩
    rcases List.mem_cons.1 ht with rfl|ht
    ·omega
    ·exact h2 t ht
theorem mis_ge: ∀{s t:List Int},s.length=t.length→(∀x,x∈misS s t→x=0)→t.sum≤s.sum∧(s.sum≤t.sum→s=t)
 |[],[],_,_=>⟨Int.le_refl _,fun _=>rfl⟩
 |[],_::_,h,_=>by simp at h
 |_::_,[],h,_=>by simp at h
 |a::s,b::t,h,hx=>by
  obtain⟨h1,h2⟩:=mis_ge (s:=s) (t:=t) (by simpa using h) fun x hm=>hx x (by simp[misS,zipS]at hm ⊢;exact .inr hm)
  have h3:max 0 (b-a)=0:=hx _ (by simp[misS,zipS])
  simp only[List.sum_cons]
  refine⟨by omega,fun q=>?_⟩
  rw[h2 (by omega),show a=b by omega]
theorem mis_sum{s t:List Int}(hs:s.length=12)(ht:t.length=12)(h:misS s t=zer12)(hl:s.sum≤t.sum):s=t:=
 (mis_ge (by omega) fun x hx=>by
  rw[h]at hx
  simp[zer12]at hx
  exact hx).2 hl
theorem canC_ne{a:Hall}(ha:okH a)(c:Int):canC a c≠[]↔ ∃p,p∈plansG a.hs c∧T4.butN a.hs 0 p=0:=by
 have hl: ∀s,s∈keysF (foundN a c)→s.length=12:=fun s hs=>by
  obtain⟨e,he,rfl⟩:=List.mem_map.1 hs
  exact(foundN_ok ha c e he).1.1
 have h1:canC a c≠[]↔keysF (foundN a c)≠[]:=by
  constructor
  ·intro h e
   exact h (by unfold canC;rw[e];rfl)
  ·intro h
   obtain⟨s,h1,h2⟩:=least_sum h
   refine List.ne_nil_of_mem (a:=s) (List.mem_filter.2 ⟨h1,minB_iff.2 fun t ht=>?_⟩)
   by_cases q:misS s t=zer12
   ·exact .inl (mis_sum (hl s h1) (hl t ht) q (h2 t ht))
   ·exact .inr q
 have h2:keysF (foundN a c)≠[]↔foundN a c≠[]:=by simp[keysF]
 rw[h1,h2,foundN,found_iff]
 exact exists_congr fun p=>and_congr_right fun _=>late0 ha.1
theorem sure_set{a:Hall}(ha:okH a)(h3:a.hs.bs.length≤3):T4.sureG a.hs 0=true↔(fewL (canL a) zer12).isSome=true:=by
 rw[sure_iff,fewL_some (len_can ha h3) rfl]
 constructor
 ·intro h c hc
  obtain⟨x,hx,rfl⟩:=List.mem_map.1 hc
  exact(canC_ne ha x).2 (h x ((cases_same a x).1 hx))
 ·intro h x hx
  exact(canC_ne ha x).1 (h _ (List.mem_map.2 ⟨x,(cases_same a x).2 hx,rfl⟩))
theorem best0{h:House}(hk:okG h): ∀(L:List (List (List Int))) (s:List (List Int)×Int),0≤s.2→(∃p,p∈L∧T4.butN h 0 p=0)→(runC (T4.bst h) s L).1.2=0
 |[],_,_,⟨_,h,_⟩=>by cases h
 |p::L,s,h0,⟨q,h1,h2⟩=>by
  obtain⟨l0,l1⟩:=T4.lt_bd hk (rdy h (tim h p))
  have hp:=T4.pop_bd l0 l1
  have hln:T4.lateN h p=pop (ltG h (rdy h (tim h p))):=rfl
  rw[runC]
  by_cases hc:T4.lateN h p<s.2
  ·have e:T4.bst h s p=((p,T4.lateN h p),decide (T4.lateN h p≠0)):=if_pos hc
   rw[e]
   by_cases hz:T4.lateN h p=0
   ·simp[hz]
   ·rw[if_pos (by simp[hz])]
    rcases List.mem_cons.1 h1 with e1|h1
    ·rw[e1,but0 hk]at h2
     exact absurd (by rw[hln,h2];rfl) hz
    ·exact best0 hk L _ (by simp only;omega) ⟨q,h1,h2⟩
  ·have e:T4.bst h s p=(s,decide (s.2≠0)):=if_neg hc
   rw[e]
   by_cases hz:s.2=0
   ·simp[hz]
   ·rw[if_pos (by simp[hz])]
    rcases List.mem_cons.1 h1 with e1|h1
    ·rw[e1,but0 hk]at h2
     have:T4.lateN h p=0:=by rw[hln,h2];rfl
     omega
    ·exact best0 hk L _ h0 ⟨q,h1,h2⟩
theorem few_sure{h:House}(hk:okG h)(hs:T4.sureG h 0=true):(T4.bestG h (-1)).2=0:=
 best0 hk _ _ (by simp only;omega) (sure_iff.1 hs (-1) (by simp[T4.casesG]))
theorem told_sure{h:House}(hs:T4.sureG h 0=true): ∀k:Nat,T4.tolF h (k+1)=([],0)
 |0=>by
  have hb:bitsP ((0:Nat):Int) 4=[]:=by decide
  rw[T4.tolF,hb,if_pos ⟨.inl (by simp only[T4.tolF,List.length_nil];omega),hs⟩]
  rfl
 |k+1=>by
  have ih:=told_sure hs k
  rw[T4.tolF,ih,if_neg]
  rintro⟨q|⟨q1,q2⟩,_⟩
  ·simp only at q;omega
  ·simp only at q1 q2
   have:bitsP ((k+1:Nat):Int) 4=[]:=List.eq_nil_of_length_eq_zero (by omega)
   rw[this]at q2
   simp[cmpI]at q2
theorem plansF_ne(k:Nat)(stop:Int)(nb:Nat): ∀(f m:Nat) (p:List (List Int)),m≤k→k-m<f→plansF k stop nb f m p≠[]
 |0,m,p,_,h=>by omega
 |f+1,m,p,h1,h2=>by
  rw[plansF]
  split
  ·simp
  ·intro e
   exact plansF_ne k stop nb f (m+1) p (by omega) (by omega) (List.append_eq_nil_iff.1 e).1
theorem plansG_ne(h:House)(stop:Int):plansG h stop≠[]:=plansF_ne _ _ _ _ _ _ (Nat.zero_le _) (by omega)
theorem and_mask: ∀n x:Nat,n≤4→x<2^n→x &&& (18446744073709551615-(2^n-1))=0:=by
 have h0: ∀x:Nat,x<2^0→x &&& (18446744073709551615-(2^0-1))=0:=by decide
 have h1: ∀x:Nat,x<2^1→x &&& (18446744073709551615-(2^1-1))=0:=by decide
 have h2: ∀x:Nat,x<2^2→x &&& (18446744073709551615-(2^2-1))=0:=by decide
 have h3: ∀x:Nat,x<2^3→x &&& (18446744073709551615-(2^3-1))=0:=by decide
 have h4: ∀x:Nat,x<2^4→x &&& (18446744073709551615-(2^4-1))=0:=by decide
 intro n x hn hx
 have hc:n=0∨n=1∨n=2∨n=3∨n=4:=by omega
 rcases hc with rfl|rfl|rfl|rfl|rfl
 ·exact h0 x hx
 ·exact h1 x hx
 ·exact h2 x hx
 ·exact h3 x hx
 ·exact h4 x hx
theorem sure_all{h:House}(hk:okG h):T4.sureG h ((2^h.ts.length-1:Nat):Int)=true:=by
 obtain⟨k1,k2,k3,_⟩:=id hk
 refine sure_iff.2 fun stop _=>?_
 obtain⟨p,hp⟩:=List.exists_mem_of_ne_nil _ (plansG_ne h stop)
 refine⟨p,hp,?_⟩
 have hb:=ltM_bd h (rdy h (tim h p)) h.ts.length
 have hpw:((2^h.ts.length:Nat):Int)=(2:Int)^h.ts.length:=by simp
 unfold T4.butN
 rw[Int.toNat_natCast]
 refine and_mask _ _ k3 ?_
 unfold ltG
 omega
theorem bits_all{n:Nat}(hn:n≤4):(bitsP ((2^n-1:Nat):Int) 4).length≤n:=by
 have hc:n=0∨n=1∨n=2∨n=3∨n=4:=by omega
 rcases hc with rfl|rfl|rfl|rfl|rfl<;>decide
theorem told_inv(h:House)(k:Nat):((T4.tolF h k)=([],(h.ts.length:Int)+1)∧ ∀s:Nat,s<k→((bitsP s 4).length:Int)<h.ts.length+1→T4.sureG h s=false)∨ ∃s:Nat,s<k∧T4.sureG h s=true∧(T4.tolF h k).1=bitsP s 4:=by
 induction k with
 |zero=>exact .inl ⟨rfl,fun s hs=>by omega⟩
 |succ k ih=>
  rw[T4.tolF]
  split
  ·rename_i hc
   exact .inr ⟨k,by omega,hc.2,rfl⟩
  ·rename_i hc
   rcases ih with⟨e,q⟩|⟨s,h1,h2,h3⟩
   ·refine .inl ⟨e,fun s hs hb=>?_⟩
    by_cases hsk:s=k
    ·subst hsk
     rw[←Bool.not_eq_true]
     intro hsu
     exact hc ⟨.inl (by rw[e];exact hb),hsu⟩
    ·exact q s (by omega) hb
   ·exact .inr ⟨s,by omega,h2,h3⟩
theorem told_not{h:House}(hk:okG h)(hn:T4.sureG h 0=false):(T4.tolF h (2^h.ts.length)).1≠[]:=by
 have k3:=hk.2.2.1
 have hp:1≤2^h.ts.length:=Nat.one_le_two_pow
 have hp2:2^h.ts.length≤16:=Nat.pow_le_pow_right (n:=2) (by omega) k3
 rcases told_inv h (2^h.ts.length)with⟨_,q⟩|⟨s,h1,h2,h3⟩
 ·have:=q (2^h.ts.length-1) (by omega) (by have:=bits_all k3;omega)
  rw[sure_all hk]at this
  cases this
 ·rw[h3]
  intro e
  have h0:=(bits0 (s:=(s:Int)) (by omega) (by omega)).1 (by rw[e];rfl)
  rw[h0,hn]at h2
  cases h2
theorem tell_ne{l:List Int}(h:l≠[])(hs: ∀n,n∈l→0≤n∧n<10):tellL l≠nothT:=by
 rw[tellL,if_neg h]
 cases l with
 |nil=>exact absurd rfl h
 |cons x r=>
  obtain⟨h0,h1⟩:=hs x (by simp)
  obtain⟨k,rfl⟩: ∃k:Nat,x=k:=⟨x.toNat,by omega⟩
  rw[map_cons,Lib.join_cons,itoa_1 (by omega)]
  intro e
  have e2:UInt8.ofNat (48+k)=110:=by
   have:=congrArg (fun l:Str=>l.getD 0 0) e
   exact this
  have e3:=congrArg UInt8.toNat e2
  rw[UInt8.toNat_ofNat']at e3
  have:(110:UInt8).toNat=110:=rfl
  omega
def sureL:Str:=[115,117,114,101]
def fewsL:Str:=[102,101,119,101,115,116]
def toldL:Str:=[116,111,108,100]
theorem allNum_nil:allNum []:=fun w hw=>by cases hw
theorem key_one(w:Str):key [w]=w++[48]:=by
 unfold key
 show w++Lib.itoa ((0:Nat):Int)=_
 rw[itoa_1 (by decide)];rfl
theorem op_one(w:Str):opN [w]=opK (w++[48]):=by rw[←key_one];exact if_pos allNum_nil
theorem qn_one(w:Str):qN [w]=qK (w++[48]):=by rw[←key_one];exact if_pos allNum_nil
theorem ask_one(t:Town)(rs:List Rec)(i:Int){s:Str}(hs:splitP s=[s])(h1:opK (s++[48])=0)(h2:qK (s++[48])≠0):doA t rs i (splitP s)=(telA [s] (townF i t rs),rs):=by
 rw[hs,doA,if_pos (by rw[op_one];exact h1),if_neg (by rw[qn_one];exact h2)]
theorem split_sure:splitP sureL=[sureL]:=by decide
theorem split_fews:splitP fewsL=[fewsL]:=by decide
theorem split_told:splitP toldL=[toldL]:=by decide
theorem townF_big(t:Town){i j:Int}: ∀(rs:List Rec) (t:Town),(∀r,r∈rs→r.line<i)→i≤j→townF j t rs=townF i t rs
 |[],_,_,_=>rfl
 |r::rs,t,h,hij=>by
  have h1:=h r (by simp)
  rw[townF,townF,if_neg (by omega),if_neg (by omega)]
  exact townF_big t rs _ (fun x hx=>h x (by simp[hx])) hij
theorem step_lt{i:Int}{ws:List Str}{rs rs':List Rec}(h:StepR i ws rs rs')(hk: ∀r,r∈rs→r.line<i): ∀r,r∈rs'→r.line<i+1:=by
 rcases h with⟨q,rfl⟩|⟨q,rfl⟩|⟨q,n,e,rfl,he⟩
 ·intro r hr
  rcases List.mem_append.1 hr with hr|hr
  ·have:=hk r hr;omega
  ·simp only[mem_singleton]at hr;subst hr;simp only;omega
 ·intro r hr;have:=hk r hr;omega
 ·intro r hr
  unfold corR at hr
  split at hr
  ·have:=hk r hr;omega
  ·rcases mem_mod hr with q|⟨q,h1,rfl⟩
   ·have:=hk r q;omega
   ·have:=hk q h1;simp only;omega
theorem run_lt(t:Town){ls:List Str}(hs:shortW ls): ∀j:Nat,∀ r,r∈(runTo t ls j).2→r.line<j
 |0=>fun r hr=>by simp[runTo]at hr
 |j+1=>by
  have hl:(splitP (ls.getD j [])).length≤61:=by
   have h1:=splitP_len (ls.getD j [])
   have h2:(ls.getD j []).length≤60:=by
    rw[getD_eq_getElem?_getD]
    cases e:ls[j]? with
    |none=>simp
    |some w=>exact hs w (mem_of_getElem? e)
   omega
  have:=step_lt (doA_step t _ j _ hl) (run_lt t hs j)
  intro r hr
  have:=this r hr
  omega
theorem runTo_app(t:Town)(L X:List Str): ∀j,j≤L.length→runTo t (L++X) j=runTo t L j
 |0,_=>rfl
 |j+1,hj=>by
  have e:(L++X).getD j []=L.getD j []:=by
   rw[getD_eq_getElem?_getD,getD_eq_getElem?_getD,List.getElem?_append_left (by omega)]
  rw[runTo,runTo,runTo_app t L X j (by omega),e]
theorem run_all(t:Town)(hv:vT t)(L:List Str)(hs:shortW (L++[sureL,fewsL,toldL]))(hl:L.length≤50):
  ∃(T:Town) (ans:List Str),vT T∧ans.length=L.length∧(runTo t (L++[sureL,fewsL,toldL]) (L.length+3)).1=ans++[if T4.sureG T.h 0=true then [49]else [48],Lib.itoa (T4.bestG T.h (-1)).2,tellL (T4.tolF T.h (2^T.h.ts.length)).1]∧
   townF (L.length+3:Nat) t (runTo t (L++[sureL,fewsL,toldL]) (L.length+3)).2=T∧T.h.bs.length≤t.h.bs.length+cntB (L++[sureL,fewsL,toldL]):=by
 have hA:(L++[sureL,fewsL,toldL]).length=L.length+3:=by simp
 have hsL:shortW L:=fun w hw=>hs w (by simp[hw])
 have hlt:=run_lt t hsL L.length
 have e0:=runTo_app t L [sureL,fewsL,toldL] L.length (Nat.le_refl _)
 have g0:(L++[sureL,fewsL,toldL]).getD L.length []=sureL:=by
  rw[getD_eq_getElem?_getD,getElem?_append_right (by omega)];simp
 have g1:(L++[sureL,fewsL,toldL]).getD (L.length+1) []=fewsL:=by
  rw[getD_eq_getElem?_getD,getElem?_append_right (by omega)];simp
 have g2:(L++[sureL,fewsL,toldL]).getD (L.length+2) []=toldL:=by
  rw[getD_eq_getElem?_getD,getElem?_append_right (by omega)];simp
 have hbs:=run_bs t hs
 rw[hA]at hbs
 generalize hT0:townF L.length t (runTo t L L.length).2=T0
 have hvT:vT T0:=by rw[←hT0];exact townF_ok _ hv
 have tb: ∀j:Int,(L.length:Int)≤j→townF j t (runTo t L L.length).2=T0:=fun j hj=>by rw[←hT0];exact townF_big t _ _ hlt hj
 have a0:=fun i=>ask_one t (runTo t L L.length).2 i split_sure (by decide) (by decide)
 have a1:=fun i=>ask_one t (runTo t L L.length).2 i split_fews (by decide) (by decide)
 have a2:=fun i=>ask_one t (runTo t L L.length).2 i split_told (by decide) (by decide)
 have s0:=(telA_ok (ws:=[sureL]) (by simp) (by rw[qn_one];decide) T0 hvT).2.1 (by rw[qn_one];decide)
 have s1:=(telA_ok (ws:=[fewsL]) (by simp) (by rw[qn_one];decide) T0 hvT).2.2.1 (by rw[qn_one];decide)
 have s2:=(telA_ok (ws:=[toldL]) (by simp) (by rw[qn_one];decide) T0 hvT).2.2.2 (by rw[qn_one];decide)
 have r1:runTo t (L++[sureL,fewsL,toldL]) (L.length+1)=((runTo t L L.length).1++[telA [sureL] T0],(runTo t L L.length).2):=by
  rw[runTo,g0,e0,a0,tb _ (Int.le_refl _)]
 have r2:runTo t (L++[sureL,fewsL,toldL]) (L.length+2)=((runTo t L L.length).1++[telA [sureL] T0]++[telA [fewsL] T0],(runTo t L L.length).2):=by
  rw[runTo,g1,r1]
  simp only
  rw[a1,tb _ (by omega)]
 have r3:runTo t (L++[sureL,fewsL,toldL]) (L.length+3)=((runTo t L L.length).1++[telA [sureL] T0]++[telA [fewsL] T0]++[telA [toldL] T0],(runTo t L L.length).2):=by
  rw[runTo,g2,r2]
  simp only
  rw[a2,tb _ (by omega)]
 rw[r3]at hbs ⊢
 simp only at hbs ⊢
 rw[tb _ (by omega)]at hbs ⊢
 refine⟨T0,(runTo t L L.length).1,hvT,runTo_len t L L.length,?_,rfl,hbs⟩
 rw[s0,s1,s2];simp
def stopL:Str:=[115,116,111,112,115,32,48,32,49]
def stopW:List Str:=[[115,116,111,112,115],[48],[49]]
def exLs:List Str:=[sureL,stopL,sureL]
def exE2:Town:=⟨exG,W2.exS⟩
theorem numF_0:numF [48]=some 0:=by
 have h1:Lib.atoiAll [48]= .ok 0:=by rfl
 have h2:Lib.itoa ((0:Nat):Int)=[48]:=by rw[itoa_1 (by decide)];rfl
 have h3:Lib.itoa 0=[48]:=h2
 unfold numF
 rw[h1]
 simp only
 rw[if_pos ⟨h3,by decide⟩]
theorem numF_1:numF [49]=some 1:=by
 have h1:Lib.atoiAll [49]= .ok 1:=by rfl
 have h2:Lib.itoa ((1:Nat):Int)=[49]:=by rw[itoa_1 (by decide)];rfl
 have h3:Lib.itoa 1=[49]:=h2
 unfold numF
 rw[h1]
 simp only
 rw[if_pos ⟨h3,by decide⟩]
theorem stop_num:allNum stopW.tail:=fun w hw=>by
 simp only[stopW,List.tail_cons,List.mem_cons,List.not_mem_nil,or_false]at hw
 rcases hw with rfl|rfl
 ·rw[numF_0];rfl
 ·rw[numF_1];rfl
theorem stop_op:opN stopW=112:=by
 have hk:key stopW=[115,116,111,112,115,50]:=by
  unfold key
  show [115,116,111,112,115]++Lib.itoa ((2:Nat):Int)=_
  rw[itoa_1 (by decide)];rfl
 rw[show opN stopW=opK (key stopW)from if_pos stop_num,hk]
 decide
theorem stop_nums:numsX stopW.tail=[0,1]:=by
 rw[numsX,if_pos stop_num]
 simp only[numsL,stopW,List.tail_cons,map_cons,map_nil,numF_0,numF_1]
 rfl
theorem exE_ok:vT exE:=⟨⟨by decide,by decide,by decide,by decide,⟨by decide,by decide⟩,by simp[exE,exH2,okMa,within],by simp[exE,exH2,within],by simp[exE,exH2,okBu,within]⟩,W2.exS_valid⟩
theorem exE2_ok:vT exE2:=⟨exG_ok,W2.exS_valid⟩
theorem stop_does:onF (dW stopW exE) exE=(exE2,true):=by
 have h1:dW stopW exE=some exE2:=by
  unfold dW
  rw[stop_op,stop_nums]
  simp only[doF]
  rw[if_pos (show ix0 0 exE.h.ms.length from⟨by decide,by decide⟩)]
  rfl
 rw[h1]
 exact if_pos exE2_ok
theorem ex_sure:T4.sureG exE.h 0=true:=by kernel_rfl
theorem ex_not:T4.sureG exE2.h 0=false:=by kernel_rfl
theorem split_stop:splitP stopL=stopW:=by decide
theorem ex_run:(runTo exE exLs 3).1=[[49],okT,[48]]:=by
 have s0:=(telA_ok (ws:=[sureL]) (by simp) (by rw[qn_one];decide) exE exE_ok).2.1 (by rw[qn_one];decide)
 have s1:=(telA_ok (ws:=[sureL]) (by simp) (by rw[qn_one];decide) exE2 exE2_ok).2.1 (by rw[qn_one];decide)
 rw[ex_sure,if_pos rfl]at s0
 rw[ex_not,if_neg (by decide)]at s1
 have d0:doA exE [] 0 (splitP sureL)=([49],[]):=by
  rw[ask_one exE [] 0 split_sure (by decide) (by decide)]
  rw[show townF 0 exE []=exE from rfl,s0]
 have d1:doA exE [] 1 (splitP stopL)=(okT,[⟨1,some stopW⟩]):=by
  rw[split_stop,doA,if_neg (by rw[stop_op];decide),show townF 1 exE []=exE from rfl,stop_does]
  rfl
 have d2:doA exE [⟨1,some stopW⟩] 2 (splitP sureL)=([48],[⟨1,some stopW⟩]):=by
  rw[ask_one exE [⟨1,some stopW⟩] 2 split_sure (by decide) (by decide)]
  have:townF 2 exE [⟨1,some stopW⟩]=exE2:=by
   rw[townF,if_neg (by decide),townF,goT]
   simp only
   rw[stop_does]
  rw[this,s1]
 have r1:runTo exE exLs 1=([[49]],[]):=by
  rw[runTo]
  show([]++[(doA exE [] 0 (splitP sureL)).1],(doA exE [] 0 (splitP sureL)).2)=_
  rw[d0];rfl
 have r2:runTo exE exLs 2=([[49],okT],[⟨1,some stopW⟩]):=by
  rw[runTo,r1]
  show([[49]]++[(doA exE [] 1 (splitP stopL)).1],(doA exE [] 1 (splitP stopL)).2)=_
  rw[d1];rfl
 rw[runTo,r2]
 show [[49],okT]++[(doA exE [⟨1,some stopW⟩] 2 (splitP sureL)).1]=_
 rw[d2];rfl
set_option maxHeartbeats 2000000 in
theorem c6:PC prog 6 [] (.bool true):=by
 have h19:=c19
 have h12:=w12
 have h20:=c20
 have h7:=PC.lo (args:=[.agg exEa,.lst true 1 (strs exLs)]) (c7 exE exE_ok false exLs (by decide) (by simp[shortW,exLs,sureL,stopL])) rfl
 have e3:exLs.length=3:=rfl
 rw[runV,e3,ex_run]at h7
 have hx:strs exLs=[[.str [115,117,114,101]],[.str [115,116,111,112,115,32,48,32,49]],[.str [115,117,114,101]]]:=rfl
 rw[hx]at h7
 generalize townF (3:Nat) exE (runTo exE exLs 3).2=T at h7
 generalize bookF exE exLs=B at h7
 have h21:=c21 false false [[49],okT,[48]] [[49],okT,[48]] (by decide)
 rw[decide_eq_true rfl]at h21
 have hs:strs [[49],okT,[48]]=[[.str [49]],[.str [111,107]],[.str [48]]]:=rfl
 rw[hs]at h7 h21
 simp only[exEa,exRc,W2.exR,exH2,encM,encB,encN,map_cons,map_nil,List.cons_append,nil_append]at h7 h20
 refine pB Tryz.func6 fun hlen=>CV.run ?_
 simp only[Tryz.f6]
 simp only[go_sem,length_map,and_true,true_and]at hlen
 repeat' first|refine sP ?_ ?_<;>intro hb<;>(try rw[hb])<;>(try simp only[bb]at hb)<;>try simp only[go_sem]|refine aI ?_|with_reducible refine cq h19 ?_|with_reducible refine cq h12 ?_|with_reducible refine cq h20 ?_|with_reducible refine cq h7 ?_|simp only[go_sem]
 refine vpu h7 (by simp[AV.pure,AV.pureL]) rfl (frzL_self [] _ rfl) ?_
 repeat' first|refine sP ?_ ?_<;>intro hb<;>(try rw[hb])<;>(try simp only[bb]at hb)<;>try simp only[go_sem]|refine aI ?_|with_reducible refine cq h21 ?_|simp only[go_sem]
theorem CV.cut3{α:Type}{P:Program}{nt m:Nat}{R:Exit→St→Prop}{st:St}{x0 x1 x2 y:Code}(S2:α→St)(X:α→Prop)(h1:CV P nt m R [.code x0,.code x1,.code x2,.back fun s=> ∃z,Wn m s (S2 z)∧X z] st)(h2: ∀z,X z→CV P nt m R [.code y] (S2 z)):CV P nt m R [.code (x0.seq (x1.seq (x2.seq y)))] st:=
 CV.cutN [x0,x1,x2] S2 X h1 h2
theorem vT_small{t:Town}(h:vT t): ¬hugeT t:=by
 obtain⟨⟨k1,k2,k3,k4,_⟩,hs⟩:=h
 rintro(q|q)
 ·unfold hugeG at q;omega
 ·exact hs.small q
theorem told_dig(h:House): ∀k:Nat,∀ n,n∈(T4.tolF h k).1→0≤n∧n<10
 |0=>by simp[T4.tolF]
 |k+1=>by
  rw[T4.tolF]
  split
  ·intro n hn
   have:=bitsP_mem hn
   omega
  ·exact told_dig h k
set_option maxHeartbeats 4000000 in
theorem c3(a:Hall)(s:W2.Shop)(f:Bool)(ls:List Str)(b1:ls.length*16≤140737488351232)(b2:a.bo.length*8≤140737488351232)(b3:a.es.length*24≤140737488351232)(b4: ∀l,l∈a.es→l.length*8≤140737488351232):PC prog 3 [hH a,W2.hS s,.lst f 1 (strs ls)] (.bool true):=by
 have h6:=c6
 have eA:strs (ls++[sureL,fewsL,toldL])=strs ls++[[.str [115,117,114,101]],[.str [102,101,119,101,115,116]],[.str [116,111,108,100]]]:=by rw[show strs (ls++[sureL,fewsL,toldL])=strs ls++strs [sureL,fewsL,toldL] by simp[strs]];rfl
 have lA:(ls++[sureL,fewsL,toldL]).length=ls.length+3:=by simp
 generalize hA:ls++[sureL,fewsL,toldL]=A at eA lA
 have h4:=c4 ⟨a.hs,s⟩ false A
 have h5:=c5 ⟨a.hs,s⟩
 generalize ht:(⟨a.hs,s⟩:Town)=t at h4 h5
 have hth:t.h=a.hs:=by rw[←ht]
 have hts:t.s=s:=by rw[←ht]
 refine PC.body Tryz.func3 (by kernel_rfl) rfl (by simp[Tryz.f3]) rfl ?_
 simp only[Tryz.f3]
 intro hlen
 simp only[go_sem,length_map,and_true,true_and]at hlen
 refine CV.cut3 (fun _:Unit=>⟨[(8,.lst false 1 (strs A)),(3,.lp 0 0),(7,.lp 2 0),(2,.lst f 1 (strs ls)),(6,.bool false)],[.box 29 (cH a) false,.box 32 (W2.cS s) false,.box 35 (cT t) false]⟩) (fun _=>True) ?_ ?_
 ·subst ht
  refine CV.run ?_
  repeat' first|refine sP ?_ ?_<;>intro hb<;>(try rw[hb])<;>(try simp only[bb]at hb)<;>try simp only[go_sem,nil_append,strs_len]|refine aI ?_|simp only[go_sem,nil_append,strs_len]
  refine⟨⟨by omega,by omega,.inl trivial⟩,⟨by omega,by omega⟩,(),.take 3 rfl (by rw[←eA];exact(pureStrs A).mpr trivial) (.base ?_)⟩
  rw[←eA]
  (simp only[go_sem,subEnv_go,strs_len,lA])
  (first|exact wk_same (by simp only[go_sem,ic,subEnv_go,strs_len,lA])|(refine wk_drop ?_ ?_ ?_ ?_ ?_<;>simp only[go_sem,ic,subEnv_go,strs_len,lA]))
 ·intro _ _
  refine CV.run ?_
  have hl3:(A.length:Int)=ls.length+3:=by omega
  by_cases n24:(24:Int)<ls.length+3
  ·repeat' first|refine sP ?_ ?_<;>intro hb<;>(try rw[hb])<;>(try simp only[bb]at hb)<;>try simp only[go_sem,strs_len,hl3,n24]|refine aI ?_|with_reducible refine cq h6 ?_|simp only[go_sem,strs_len,hl3,n24]
  by_cases hf:farT t A
  ·rw[decide_eq_true hf]at h4
   repeat' first|refine sP ?_ ?_<;>intro hb<;>(try rw[hb])<;>(try simp only[bb]at hb)<;>try simp only[go_sem,strs_len,hl3,n24]|refine aI ?_|with_reducible refine cq h4 ?_|with_reducible refine cq h5 ?_|with_reducible refine cq h6 ?_|simp only[go_sem,strs_len,hl3,n24]
  rw[decide_eq_false hf]at h4
  by_cases hv:vT t
  ·rw[if_pos hv]at h5
   have hnh: ¬hugeT t:=fun q=>hf (.inl q)
   have hsA:shortW A:=fun w hw=>by
    by_cases q:60<w.length
    ·exact absurd (.inr (.inl (.inr ⟨w,hw,q⟩))) hf
    ·omega
   have hnb:t.h.bs.length+cntB A≤4:=by
    by_cases q:4<t.h.bs.length+cntB A
    ·exact absurd (.inr (.inr ⟨q,hv⟩)) hf
    ·omega
   have h8:=c8 t hnh
   have h7:=c7 t hv false A (by omega) hsA
   rw[runV,lA]at h7
   obtain⟨T,ans,hvT,hal,e1,e2,hbs⟩:=run_all t hv ls (by rw[hA];exact hsA) (by omega)
   rw[hA]at e1 e2 hbs
   rw[e1,e2]at h7
   have h4n:=c4n T
   have h5T:=c5 T
   rw[if_pos hvT]at h5T
   rw[decide_eq_false (by rintro(q|q);exact vT_small hvT q;have:=q.1;omega)]at h4n
   have h9:=c9 a (fun q=>hnh (.inl (by rw[hth];exact q))) b2 b3 b4
   have h10:=c10 (⟨T.h,a.bo,a.es⟩:Hall)
   have h11:=c11 (⟨T.h,a.bo,a.es⟩:Hall)
   generalize haS:(if T4.sureG T.h 0=true then([49]:Str)else [48])=aS at h7
   generalize haF:Lib.itoa (T4.bestG T.h (-1)).2=aF at h7
   generalize haT:tellL (T4.tolF T.h (2^T.h.ts.length)).1=aT at h7
   have hrl:(ans++[aS,aF,aT]).length=ls.length+3:=by simp[hal]
   have g0:(ans++[aS,aF,aT])[ls.length]? =some aS:=by rw[getElem?_append_right (by omega),hal];simp
   have g1:(ans++[aS,aF,aT])[ls.length+1]? =some aF:=by rw[getElem?_append_right (by omega),hal];simp
   have g2:(ans++[aS,aF,aT])[ls.length+2]? =some aT:=by rw[getElem?_append_right (by omega),hal];simp
   generalize ans++[aS,aF,aT]=W at h7 hrl g0 g1 g2
   generalize bookF t A=B at h7
   have hp7:(AV.tup [.lst false 1 (strs W),hT T,.lst false 1 (strs B),.int .i64 0]).pure=true:=by simp[AV.pure,AV.pureL]
   repeat' first|refine sP ?_ ?_<;>intro hb<;>(try rw[hb])<;>(try simp only[bb]at hb)<;>try simp only[go_sem,strs_len,hl3,n24]|refine aI ?_|with_reducible refine cq h4 ?_|with_reducible refine cq h5 ?_|with_reducible refine cq h8 ?_|simp only[go_sem,strs_len,hl3,n24]
   refine vpu h7 hp7 rfl (frzL_self _ _ rfl) ?_
   repeat' first|refine sP ?_ ?_<;>intro hb<;>(try rw[hb])<;>(try simp only[bb]at hb)<;>try simp only[go_sem,strs_len,hrl,hl3,lA]|refine aI ?_|with_reducible refine cq h4n ?_|with_reducible refine cq h5T ?_|with_reducible refine cq h9 ?_|simp only[go_sem,strs_len,hrl,hl3,lA]
   by_cases hfo:farH (⟨T.h,a.bo,a.es⟩:Hall)
   ·simp only[hfo,decide_true]at h10
    repeat' first|refine sP ?_ ?_<;>intro hb<;>(try rw[hb])<;>(try simp only[bb]at hb)<;>try simp only[go_sem]|refine aI ?_|with_reducible refine cq h10 ?_|with_reducible refine cq h6 ?_|simp only[go_sem]
   simp only[hfo,decide_false]at h10
   by_cases hok:okH (⟨T.h,a.bo,a.es⟩:Hall)
   ·rw[show checkH (⟨T.h,a.bo,a.es⟩:Hall)=0 from checkH0▸hok]at h11
    have h3:T.h.bs.length≤3:=by
     by_cases q:3<T.h.bs.length
     ·exact absurd (.inr ⟨q,hok⟩) hfo
     ·omega
    have h12:=c12 (⟨T.h,a.bo,a.es⟩:Hall) hok h3
    have h13:=c13 (⟨T.h,a.bo,a.es⟩:Hall) hok h3
    have hsure:=sure_set hok h3
    generalize hN:fewL (canL (⟨T.h,a.bo,a.es⟩:Hall)) zer12=N at h12 h13 hsure
    have hi0:(ls.length:Int).toNat=ls.length:=Int.toNat_natCast _
    have hb0:((ls.length:Int)<(ls.length+3:Nat))=True:=eq_true (by omega)
    have hb0':((ls.length:Int)<ls.length+3)=True:=eq_true (by omega)
    have hn0:(0≤(ls.length:Int))=True:=eq_true (by omega)
    have hi1:((ls.length:Int)+1).toNat=ls.length+1:=by omega
    have hn1:(0≤(ls.length:Int)+1)=True:=eq_true (by omega)
    have hb1:((ls.length:Int)+1<(ls.length+3:Nat))=True:=eq_true (by omega)
    have hb1':((ls.length:Int)+1<ls.length+3)=True:=eq_true (by omega)
    have hi2:((ls.length:Int)+2).toNat=ls.length+2:=by omega
    have hn2:(0≤(ls.length:Int)+2)=True:=eq_true (by omega)
    have hb2:((ls.length:Int)+2<(ls.length+3:Nat))=True:=eq_true (by omega)
    have hb2':((ls.length:Int)+2<ls.length+3)=True:=eq_true (by omega)
    have hj1:I64 ((ls.length:Int)+1)=True:=eq_true (by unfold I64;omega)
    have hj2:I64 ((ls.length:Int)+2)=True:=eq_true (by unfold I64;omega)
    have n89:(([48]:Str)=[49])=False:=eq_false (by decide)
    have n98:(([49]:Str)=[48])=False:=eq_false (by decide)
    cases N with
    |none=>
     simp only[numR,setR]at h12 h13
     have hs0:T4.sureG T.h 0=false:=by
      rw[←Bool.not_eq_true];intro q
      exact absurd (hsure.1 q) (by simp)
     rw[hs0,if_neg (by decide)]at haS
     have hne: ¬aT=[110,111,116,104,105,110,103]:=by
      rw[←haT]
      exact tell_ne (told_not hvT.1 hs0) (told_dig T.h _)
     subst haS
     repeat' first|refine sP ?_ ?_<;>intro hb<;>(try rw[hb])<;>(try simp only[bb]at hb)<;>try simp only[go_sem,strs_len,hrl,g0,g1,g2,hi0,hn0,hb0,hb0',hi1,hn1,hb1,hb1',hi2,hn2,hb2,hb2',hj1,hj2,n89,n98,hne]|refine aI ?_|with_reducible refine cq h10 ?_|with_reducible refine cq h11 ?_|with_reducible refine cq h12 ?_|with_reducible refine cq h13 ?_|with_reducible refine cq h6 ?_|simp only[go_sem,strs_len,hrl,g0,g1,g2,hi0,hn0,hb0,hb0',hi1,hn1,hb1,hb1',hi2,hn2,hb2,hb2',hj1,hj2,n89,n98,hne]
    |some z=>
     simp only[numR,setR]at h12 h13
     have hs1:T4.sureG T.h 0=true:=hsure.2 rfl
     rw[hs1,if_pos rfl]at haS
     rw[few_sure hvT.1 hs1]at haF
     have hF:aF=[48]:=by
      rw[←haF]
      show Lib.itoa ((0:Nat):Int)=_
      rw[itoa_1 (by decide)];rfl
     have hT2:aT=[110,111,116,104,105,110,103]:=by
      rw[←haT]
      obtain⟨k,hk⟩: ∃k,2^T.h.ts.length=k+1:=⟨2^T.h.ts.length-1,by have:1≤2^T.h.ts.length:=Nat.one_le_two_pow;omega⟩
      rw[hk,told_sure hs1 k]
      rfl
     have h14:=c14 (⟨T.h,a.bo,a.es⟩:Hall) hok h3 z hN
     have hz:=(can_ok hok h3 z hN).sum.1
     subst haS hF hT2
     repeat' first|refine sP ?_ ?_<;>intro hb<;>(try rw[hb])<;>(try simp only[bb]at hb)<;>try simp only[go_sem,strs_len,hrl,g0,g1,g2,hi0,hn0,hb0,hb0',hi1,hn1,hb1,hb1',hi2,hn2,hb2,hb2',hj1,hj2,n89,n98,hz]|refine aI ?_|with_reducible refine cq h10 ?_|with_reducible refine cq h11 ?_|with_reducible refine cq h12 ?_|with_reducible refine cq h13 ?_|with_reducible refine cq h14 ?_|with_reducible refine cq h6 ?_|simp only[go_sem,strs_len,hrl,g0,g1,g2,hi0,hn0,hb0,hb0',hi1,hn1,hb1,hb1',hi2,hn2,hb2,hb2',hj1,hj2,n89,n98,hz]
   ·rw[show checkH (⟨T.h,a.bo,a.es⟩:Hall)=90 from if_neg hok]at h11
    repeat' first|refine sP ?_ ?_<;>intro hb<;>(try rw[hb])<;>(try simp only[bb]at hb)<;>try simp only[go_sem]|refine aI ?_|with_reducible refine cq h10 ?_|with_reducible refine cq h11 ?_|with_reducible refine cq h6 ?_|simp only[go_sem]
  ·rw[if_neg hv]at h5
   repeat' first|refine sP ?_ ?_<;>intro hb<;>(try rw[hb])<;>(try simp only[bb]at hb)<;>try simp only[go_sem,strs_len,hl3,n24]|refine aI ?_|with_reducible refine cq h4 ?_|with_reducible refine cq h5 ?_|with_reducible refine cq h6 ?_|simp only[go_sem,strs_len,hl3,n24]
end Go.Proofs.YtoadkchhimojlaaGreatDoor.OV
