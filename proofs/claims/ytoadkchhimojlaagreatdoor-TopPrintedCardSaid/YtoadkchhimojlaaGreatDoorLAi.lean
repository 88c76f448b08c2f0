/- Contracts of functions of the given program, without a condition beyond those that each theorem states; they lead to the given statement. -/
import Derived.Test.YtoadkchhimojlaaGreatDoorLAh
set_option linter.unusedSectionVars false
set_option linter.unusedSimpArgs false
set_option linter.unusedVariables false
set_option maxRecDepth 100000
open List(append_assoc append_nil cons_append drop_succ_cons drop_zero length_map length_range map_append map_cons map_nil nil_append take_of_length_le)
open Go.Proofs.Tryz(prog)
namespace Go.Proofs.YtoadkchhimojlaaGreatDoor.T4
open Go Go.Fl
open Classical
def sZ06j_f175(_:Nat):List (Nat×Nat):=[(0,0),(0,0),(0,0),(0,0),(0,0),(0,0)]
attribute [go_sem] sZ06j_f175
theorem c108L{σ:Type}(h:House)(hk:okG h)(b l:Nat)(nt0:Nat)(ps:Array Tmp)(assign body:Code)(env0:Env)(HC0:σ→Heap)(cd:σ→Code)(st:σ→Int→σ×Bool)(hlen: ∀s,(HC0 s).length+1=b)(hbel: ∀s,belowH b (HC0 s))(hbe:belowE b env0)
  (hy: ∀s n own LB,LB= .loop l nt0 ps assign body env0→(own=[]∨ ∃m,own=[.box 110 (encM m) false])→HCY prog l [.int .i64 n] (HC0 s++LB::own) fun r H2=>r= .bool (st s n).2∧H2=HC0 (st s n).1++(if(st s n).2=true then LB else .lpe l (cd (st s n).1))::own) (s:σ):
  HCH prog 196 [.yld l,.pp (cG h)] (HC0 s++[.loop l nt0 ps assign body env0]) fun r H'=> ∃rest,H'=HC0 (runC st s (casesG h)).1++(if(runC st s (casesG h)).2=true then .loop l nt0 ps assign body env0 else .lpe l (cd (runC st s (casesG h)).1))::rest:=by
 have happ: ∀(A B:Heap),belowH b A→belowH b B→belowH b (A++B):=by
  intro A B ha hb
  induction A with
  |nil=>exact hb
  |cons x A ih=>exact⟨ha.1,ih ha.2⟩
 have:=c196 h hk b l (fun x:σ×Bool=>HC0 x.1++[if x.2=true then .loop l nt0 ps assign body env0 else .lpe l (cd x.1)]) (fun x=>x.2=true) (fun x a=>(((st x.1 a).1,(st x.1 a).2),(st x.1 a).2))
  (fun x=>by have:=hlen x.1;simpa using this) (fun x=>happ _ _ (hbel _) ⟨by split<;>first|exact hbe|trivial,trivial⟩) (fun x p _ h=>h) (fun x n own ha ho=>by
   obtain⟨s,a⟩:=x
   have ha:a=true:=ha
   subst ha
   have:=hy s n own _ rfl ho
   simp only[append_assoc,cons_append,nil_append,if_true]
   exact this) (s,true) rfl
 refine(this.mono ?_)
 rintro r H' ⟨rest,rfl⟩
 rw[runC_al]
 exact⟨rest,by simp⟩
theorem belowL_encM{n:Nat}{m:Mach}:belowL n (encM m)=true:=rfl
attribute [go_sem] belowL_encM
def butN(h:House)(but:Int)(p:List (List Int)):Nat:=(ltG h (rdy h (tim h p))).toNat &&& (18446744073709551615-but.toNat)
def stB(h:House)(but:Int)(_:Unit)(p:List (List Int)):Unit×Bool:=((),!(butN h but p == 0))
def canG(h:House)(but stop:Int):Bool:= !(runC (stB h but) () (plansG h stop)).2
def stC(h:House)(but:Int)(_:Unit)(stop:Int):Unit×Bool:=((),canG h but stop)
def sureG(h:House)(but:Int):Bool:=(runC (stC h but) () (casesG h)).2
set_option maxHeartbeats 4000000 in
theorem c175(h:House)(hk:okG h)(but:Int)(b0:0≤but)(b1:but<16):PC prog 175 [hG h,.int .u64 but] (.bool (sureG h but)):=by
 obtain⟨k1,k2,k3,k4,k5,k6,k7,k8⟩:=id hk
 have u0:U64 but=True:=eq_true (by unfold U64;omega)
 refine pB Tryz.func175 fun hlen=>CV.run ?_
 simp only[Tryz.f175]
 simp only[go_sem,length_map,and_true,true_and]at hlen
 repeat' first|refine sP ?_ ?_<;>intro hb<;>(try rw[hb])<;>(try simp only[bb]at hb)<;>(try simp only[within]at hb)<;>try simp only[go_sem]|refine aI ?_|with_reducible refine dw sZ06j_f175 ?_|simp only[go_sem]
 refine vc_scope (fun l st=>Ret.noGoto l st) ?_
 repeat' first|refine sP ?_ ?_<;>intro hb<;>(try rw[hb])<;>(try simp only[bb]at hb)<;>(try simp only[within]at hb)<;>try simp only[go_sem]|refine aI ?_|with_reducible refine dw sZ06j_f175 ?_|simp only[go_sem]
 refine vc_label ?_
 repeat' first|refine sP ?_ ?_<;>intro hb<;>(try rw[hb])<;>(try simp only[bb]at hb)<;>(try simp only[within]at hb)<;>try simp only[go_sem]|refine aI ?_|with_reducible refine dw sZ06j_f175 ?_|with_reducible refine cq (c178 h) ?_|simp only[go_sem]
 rw[vc_range_eq]
 refine CV.rangeG rfl (Nat.zero_le _) (fun l=>?_)
 refine(c108L h hk 4 l _ _ _ _ _ (fun _:Unit=>[.box 26 (cG h) false,.box 224 [.int .u64 but] false,.box 4 [.bool false] false]) (fun _=> .ret) (stC h but) (fun _=>rfl) (fun _=>by(simp only[go_sem,belowH])) (by(simp only[go_sem])) (fun s n own LB hLB hown=>?_) ()).mono ?_
 ·rcases hown with rfl|⟨m0,rfl⟩
  ·refine HCY.bodyL (n:=3) hLB rfl rfl (by simp) ?_
   clear hLB
   repeat' first|refine sP ?_ ?_<;>intro hb<;>(try rw[hb])<;>(try simp only[bb]at hb)<;>(try simp only[within]at hb)<;>try simp only[go_sem,putPs,cons_append,nil_append]|refine aI ?_|with_reducible refine dw sZ06j_f175 ?_|with_reducible refine cq (c179 h n) ?_|simp only[go_sem,putPs,cons_append,nil_append]
   rw[vc_range_eq]
   refine CV.rangeG rfl (Nat.le_refl _) (fun l2=>?_)
   refine(c93L h hk 5 l2 n _ _ _ _ _ (fun _:Unit=>[.box 26 (cG h) false,.box 224 [.int .u64 but] false,.box 4 [.bool false] false,.gone]) (fun _=> .exit 1) (stB h but) (fun _=>rfl) (fun s p j g LB2 hLB2 hq=>?_) ()).mono ?_
   ·refine HCY.bodyL (n:=4) hLB2 rfl rfl (by simp) ?_
    clear hLB2
    have hbr:belowB (h.ms.length+10) (.row 24 1 ((List.range h.ms.length).map (rowE 5 p g)) false)=True:=belowB_rowE (by omega)
    have hltk: ∀c:Nat,c<10→(c<h.ms.length+10)=True:=fun c hc=>eq_true (by omega)
    have h73:=c158 h hk (rdy h (tim h p)) (rdy_len _ _)
    obtain⟨l0,l1⟩:=lt_bd hk (rdy h (tim h p))
    have u1:U64 (ltG h (rdy h (tim h p)))=True:=eq_true (by unfold U64;omega)
    have htk:List.take 4 (List.map I (rdy h (tim h p)))=List.map I (rdy h (tim h p)):=take_of_length_le (by simp[rdy_len])
    have hbn:(((ltG h (rdy h (tim h p))).toNat &&& (18446744073709551615-but.toNat):Nat):Int)=(butN h but p:Int):=rfl
    repeat' first|refine sP ?_ ?_<;>intro hb<;>(try rw[hb])<;>(try simp only[bb]at hb)<;>(try simp only[within]at hb)<;>try simp only[go_sem,putPs,cons_append,nil_append,allOne_mapI,rdy_len,length_map,length_range,tg0,tg1,ts0,ts1,htk,u0,u1,hbn,Nat.add_assoc,drop_succ_cons,drop_zero,append_assoc,append_nil]|refine aI ?_|with_reducible refine dw sZ06j_f175 ?_|with_reducible refine cq h73 ?_|simp only[go_sem,putPs,cons_append,nil_append,allOne_mapI,rdy_len,length_map,length_range,tg0,tg1,ts0,ts1,htk,u0,u1,hbn,Nat.add_assoc,drop_succ_cons,drop_zero,append_assoc,append_nil]
    ·have e0:butN h but p=0:=by omega
     have e1:stB h but s p=((),false):=by simp[stB,e0]
     refine RBL.ex ([.box 26 (cG h) false,.box 224 [.int .u64 but] false,.box 4 [.bool false] false,.gone]++ .gone::ownP 5 l2 h n p j g) (.base (by(first|exact wk_same (by simp only[go_sem,ic,pfx_app,pfx,belowH,hbr,hltk,belowB_gone,belowH_rgE,Nat.add_assoc,length_map,length_range])|(refine wk_drop ?_ ?_ ?_ ?_ ?_<;>simp only[go_sem,ic,pfx_app,pfx,belowH,hbr,hltk,belowB_gone,belowH_rgE,Nat.add_assoc,length_map,length_range])))) rfl ?_
     rw[e1];exact⟨rfl,rfl⟩
    ·have e0:butN h but p≠0:=fun e=>hb (by rw[e];rfl)
     have e1:stB h but s p=((),true):=by simp[stB,e0]
     refine RBL.nm ([.box 26 (cG h) false,.box 224 [.int .u64 but] false,.box 4 [.bool false] false,.gone]++ .gone::ownP 5 l2 h n p j g) (.base (by(first|exact wk_same (by simp only[go_sem,ic,pfx_app,pfx,belowH,hbr,hltk,belowB_gone,belowH_rgE,Nat.add_assoc,length_map,length_range])|(refine wk_drop ?_ ?_ ?_ ?_ ?_<;>simp only[go_sem,ic,pfx_app,pfx,belowH,hbr,hltk,belowB_gone,belowH_rgE,Nat.add_assoc,length_map,length_range])))) rfl ?_
     rw[e1];exact⟨rfl,rfl⟩
   ·rintro r H' ⟨rest,rfl⟩
    refine⟨_,_,rest,rfl,rfl,by(simp only[go_sem,belowH,belowB_gone]),by(simp only[go_sem]),?_⟩
    cases hR:(runC (stB h but) () (plansG h n)).2 with
    |true=>
     rw[if_pos rfl]
     have e1:stC h but s n=((),false):=by simp[stC,canG,hR]
     refine .inl ⟨rfl,?_⟩
     repeat' first|refine sP ?_ ?_<;>intro hb<;>(try rw[hb])<;>(try simp only[bb]at hb)<;>(try simp only[within]at hb)<;>try simp only[go_sem]|refine aI ?_|with_reducible refine dw sZ06j_f175 ?_|simp only[go_sem]
     refine RBL.rt [.box 26 (cG h) false,.box 224 [.int .u64 but] false,.box 4 [.bool false] false,.gone] (.base (by exact w0)) rfl ?_
     rw[e1];exact⟨rfl,rfl⟩
    |false=>
     rw[if_neg (by simp)]
     have e1:stC h but s n=((),true):=by simp[stC,canG,hR]
     refine .inr ⟨_,rfl,?_⟩
     repeat' first|refine sP ?_ ?_<;>intro hb<;>(try rw[hb])<;>(try simp only[bb]at hb)<;>(try simp only[within]at hb)<;>try simp only[go_sem]|refine aI ?_|with_reducible refine dw sZ06j_f175 ?_|simp only[go_sem]
     refine RBL.nm [.box 26 (cG h) false,.box 224 [.int .u64 but] false,.box 4 [.bool false] false,.gone] (.base (by exact w0)) rfl ?_
     rw[e1];exact⟨rfl,rfl⟩
  ·refine HCY.bodyL (n:=3) hLB rfl rfl (by simp) ?_
   clear hLB
   repeat' first|refine sP ?_ ?_<;>intro hb<;>(try rw[hb])<;>(try simp only[bb]at hb)<;>(try simp only[within]at hb)<;>try simp only[go_sem,putPs,cons_append,nil_append]|refine aI ?_|with_reducible refine dw sZ06j_f175 ?_|with_reducible refine cq (c179 h n) ?_|simp only[go_sem,putPs,cons_append,nil_append]
   rw[vc_range_eq]
   refine CV.rangeG rfl (Nat.le_refl _) (fun l2=>?_)
   refine(c93L h hk 6 l2 n _ _ _ _ _ (fun _:Unit=>[.box 26 (cG h) false,.box 224 [.int .u64 but] false,.box 4 [.bool false] false,.gone,.box 110 (encM m0) false]) (fun _=> .exit 1) (stB h but) (fun _=>rfl) (fun s p j g LB2 hLB2 hq=>?_) ()).mono ?_
   ·refine HCY.bodyL (n:=5) hLB2 rfl rfl (by simp) ?_
    clear hLB2
    have hbr:belowB (h.ms.length+11) (.row 24 1 ((List.range h.ms.length).map (rowE 6 p g)) false)=True:=belowB_rowE (by omega)
    have hltk: ∀c:Nat,c<11→(c<h.ms.length+11)=True:=fun c hc=>eq_true (by omega)
    have h73:=c158 h hk (rdy h (tim h p)) (rdy_len _ _)
    obtain⟨l0,l1⟩:=lt_bd hk (rdy h (tim h p))
    have u1:U64 (ltG h (rdy h (tim h p)))=True:=eq_true (by unfold U64;omega)
    have htk:List.take 4 (List.map I (rdy h (tim h p)))=List.map I (rdy h (tim h p)):=take_of_length_le (by simp[rdy_len])
    have hbn:(((ltG h (rdy h (tim h p))).toNat &&& (18446744073709551615-but.toNat):Nat):Int)=(butN h but p:Int):=rfl
    repeat' first|refine sP ?_ ?_<;>intro hb<;>(try rw[hb])<;>(try simp only[bb]at hb)<;>(try simp only[within]at hb)<;>try simp only[go_sem,putPs,cons_append,nil_append,allOne_mapI,rdy_len,length_map,length_range,tg0,tg1,ts0,ts1,htk,u0,u1,hbn,Nat.add_assoc,drop_succ_cons,drop_zero,append_assoc,append_nil]|refine aI ?_|with_reducible refine dw sZ06j_f175 ?_|with_reducible refine cq h73 ?_|simp only[go_sem,putPs,cons_append,nil_append,allOne_mapI,rdy_len,length_map,length_range,tg0,tg1,ts0,ts1,htk,u0,u1,hbn,Nat.add_assoc,drop_succ_cons,drop_zero,append_assoc,append_nil]
    ·have e0:butN h but p=0:=by omega
     have e1:stB h but s p=((),false):=by simp[stB,e0]
     refine RBL.ex ([.box 26 (cG h) false,.box 224 [.int .u64 but] false,.box 4 [.bool false] false,.gone,.box 110 (encM m0) false]++ .gone::ownP 6 l2 h n p j g) (.base (by(first|exact wk_same (by simp only[go_sem,ic,pfx_app,pfx,belowH,hbr,hltk,belowB_gone,belowH_rgE,Nat.add_assoc,length_map,length_range])|(refine wk_drop ?_ ?_ ?_ ?_ ?_<;>simp only[go_sem,ic,pfx_app,pfx,belowH,hbr,hltk,belowB_gone,belowH_rgE,Nat.add_assoc,length_map,length_range])))) rfl ?_
     rw[e1];exact⟨rfl,rfl⟩
    ·have e0:butN h but p≠0:=fun e=>hb (by rw[e];rfl)
     have e1:stB h but s p=((),true):=by simp[stB,e0]
     refine RBL.nm ([.box 26 (cG h) false,.box 224 [.int .u64 but] false,.box 4 [.bool false] false,.gone,.box 110 (encM m0) false]++ .gone::ownP 6 l2 h n p j g) (.base (by(first|exact wk_same (by simp only[go_sem,ic,pfx_app,pfx,belowH,hbr,hltk,belowB_gone,belowH_rgE,Nat.add_assoc,length_map,length_range])|(refine wk_drop ?_ ?_ ?_ ?_ ?_<;>simp only[go_sem,ic,pfx_app,pfx,belowH,hbr,hltk,belowB_gone,belowH_rgE,Nat.add_assoc,length_map,length_range])))) rfl ?_
     rw[e1];exact⟨rfl,rfl⟩
   ·rintro r H' ⟨rest,rfl⟩
    refine⟨_,_,rest,rfl,rfl,by(simp only[go_sem,belowH,belowB_gone]),by(simp only[go_sem]),?_⟩
    cases hR:(runC (stB h but) () (plansG h n)).2 with
    |true=>
     rw[if_pos rfl]
     have e1:stC h but s n=((),false):=by simp[stC,canG,hR]
     refine .inl ⟨rfl,?_⟩
     repeat' first|refine sP ?_ ?_<;>intro hb<;>(try rw[hb])<;>(try simp only[bb]at hb)<;>(try simp only[within]at hb)<;>try simp only[go_sem]|refine aI ?_|with_reducible refine dw sZ06j_f175 ?_|simp only[go_sem]
     refine RBL.rt [.box 26 (cG h) false,.box 224 [.int .u64 but] false,.box 4 [.bool false] false,.gone,.box 110 (encM m0) false] (.base (by exact w0)) rfl ?_
     rw[e1];exact⟨rfl,rfl⟩
    |false=>
     rw[if_neg (by simp)]
     have e1:stC h but s n=((),true):=by simp[stC,canG,hR]
     refine .inr ⟨_,rfl,?_⟩
     repeat' first|refine sP ?_ ?_<;>intro hb<;>(try rw[hb])<;>(try simp only[bb]at hb)<;>(try simp only[within]at hb)<;>try simp only[go_sem]|refine aI ?_|with_reducible refine dw sZ06j_f175 ?_|simp only[go_sem]
     refine RBL.nm [.box 26 (cG h) false,.box 224 [.int .u64 but] false,.box 4 [.bool false] false,.gone,.box 110 (encM m0) false] (.base (by exact w0)) rfl ?_
     rw[e1];exact⟨rfl,rfl⟩
 ·rintro r H' ⟨rest,rfl⟩
  refine⟨_,_,rest,rfl,rfl,by(simp only[go_sem,belowH]),by(simp only[go_sem]),?_⟩
  unfold sureG
  cases hR:(runC (stC h but) () (casesG h)).2 with
  |true=>
   rw[if_pos rfl]
   refine .inl ⟨rfl,?_⟩
   repeat' first|refine sP ?_ ?_<;>intro hb<;>(try rw[hb])<;>(try simp only[bb]at hb)<;>(try simp only[within]at hb)<;>try simp only[go_sem]|refine aI ?_|with_reducible refine dw sZ06j_f175 ?_|simp only[go_sem]
  |false=>
   rw[if_neg (by simp)]
   refine .inr ⟨_,rfl,?_⟩
   repeat' first|refine sP ?_ ?_<;>intro hb<;>(try rw[hb])<;>(try simp only[bb]at hb)<;>(try simp only[within]at hb)<;>try simp only[go_sem]|refine aI ?_|with_reducible refine dw sZ06j_f175 ?_|simp only[go_sem]
noncomputable def surG(h:House):AV:=if okG h then .tup [.bool (sureG h 0),.int .i64 0]else .tup [.bool false,.int .i64 40]
theorem c125(h:House):PC prog 125 [hG h] (surG h):=by
 unfold surG
 by_cases hk:okG h
 ·rw[if_pos hk]
  have h37:=c55 h
  rw[show checkG h=0 from if_pos hk]at h37
  have h54:=c175 h hk 0 (by omega) (by omega)
  refine pB Tryz.func125 fun hlen=>CV.run ?_
  simp only[Tryz.f125]
  simp only[go_sem,length_map,and_true,true_and]at hlen
  repeat' first|refine sP ?_ ?_<;>intro hb<;>(try rw[hb])<;>(try simp only[bb]at hb)<;>(try simp only[within]at hb)<;>try simp only[go_sem]|refine aI ?_|with_reducible refine cq h37 ?_|with_reducible refine cq h54 ?_|simp only[go_sem]
 ·rw[if_neg hk]
  have h37:=c55 h
  rw[show checkG h=40 from if_neg hk]at h37
  refine pB Tryz.func125 fun hlen=>CV.run ?_
  simp only[Tryz.f125]
  simp only[go_sem,length_map,and_true,true_and]at hlen
  repeat' first|refine sP ?_ ?_<;>intro hb<;>(try rw[hb])<;>(try simp only[bb]at hb)<;>(try simp only[within]at hb)<;>try simp only[go_sem]|refine aI ?_|with_reducible refine cq h37 ?_|simp only[go_sem]
noncomputable def tolF(h:House):Nat→List Int×Int
 |0=>([],h.ts.length+1)
 |s+1=>if((((bitsP s 4).length:Int)<(tolF h s).2∨((bitsP s 4).length:Int)=(tolF h s).2∧cmpI (bitsP s 4) (tolF h s).1<0))∧sureG h s=true then(bitsP s 4,(bitsP s 4).length)else tolF h s
noncomputable def tolG(h:House):AV:=if okG h then .tup [lN (tolF h (2^h.ts.length)).1,.int .i64 0]else .tup [lN [],.int .i64 40]
set_option maxHeartbeats 2000000 in
theorem c131(h:House):PC prog 131 [hG h] (tolG h):=by
 unfold tolG
 by_cases hk:okG h
 ·rw[if_pos hk]
  obtain⟨k1,k2,k3,k4,k5,k6,k7,k8⟩:=id hk
  have h37:=c55 h
  rw[show checkG h=0 from if_pos hk]at h37
  have hp:(2:Int)^h.ts.length=((2^h.ts.length:Nat):Int):=by simp
  have hp2:=pow_bd k3
  have hp3:2^h.ts.length≤16:=by omega
  have u0:U64 ((2^h.ts.length:Nat):Int)=True:=eq_true (by unfold U64;omega)
  refine pB Tryz.func131 fun hlen=>CV.run ?_
  simp only[Tryz.f131]
  simp only[go_sem,length_map,and_true,true_and]at hlen
  repeat' first|refine sP ?_ ?_<;>intro hb<;>(try rw[hb])<;>(try simp only[bb]at hb)<;>(try simp only[within]at hb)<;>try simp only[go_sem,hp,u0,Int.one_mul]|refine aI ?_|with_reducible refine cq h37 ?_|simp only[go_sem,hp,u0,Int.one_mul]
  refine vc_fw (fun i=>⟨[(23,.int .u64 i),(22,.int .u64 (2^h.ts.length:Nat)),(1,.lp 0 0),(3,.int .i64 0),(5,lN (tolF h i).1),(6,.int .i64 (tolF h i).2)],[.box 26 (cG h) false]⟩) (2^h.ts.length) (fun _=>True) (.nilT 5 1 rfl (.base (by(first|exact wk_same (by simp only[go_sem,ic,tolF,lN,map_nil])|(refine wk_drop ?_ ?_ ?_ ?_ ?_<;>simp only[go_sem,ic,tolF,lN,map_nil]))))) trivial ?_
  intro i hi _
  rcases Nat.lt_or_ge i (2^h.ts.length)with hlt|hge
  ·have hlt':(i:Int)<(2^h.ts.length:Nat):=by omega
   have hi16:(i:Int)<16:=by omega
   have h58:=c161 i (by omega) hi16
   have h59:=c153 (bitsP i 4) (tolF h i).1
   have h54:=c175 h hk i (by omega) hi16
   have u1:U64 ((i:Int)+1)=True:=eq_true (by unfold U64;omega)
   have eT:tolF h (i+1)=if((((bitsP i 4).length:Int)<(tolF h i).2∨((bitsP i 4).length:Int)=(tolF h i).2∧cmpI (bitsP i 4) (tolF h i).1<0))∧sureG h i=true then(bitsP i 4,((bitsP i 4).length:Int))else tolF h i:=rfl
   generalize tolF h i=T at h59 eT ⊢
   generalize bitsP i 4=B at h58 h59 eT ⊢
   cases hs:sureG h i<;>rw[hs]at h54 eT
   ·rw[if_neg (fun q=>by cases q.2)]at eT
    repeat' first|refine sP ?_ ?_<;>intro hb<;>(try rw[hb])<;>(try simp only[bb]at hb)<;>(try simp only[within]at hb)<;>try simp only[go_sem,hlt',u1]|refine aI ?_|with_reducible refine cq h58 ?_|with_reducible refine cq h59 ?_|with_reducible refine cq h54 ?_|simp only[go_sem,hlt',u1]
    all_goals exact .base (by(first|exact wk_same (by simp only[go_sem,ic,eT])|(refine wk_drop ?_ ?_ ?_ ?_ ?_<;>simp only[go_sem,ic,eT])))
   ·by_cases hC:((B.length:Int)<T.2∨(B.length:Int)=T.2∧cmpI B T.1<0)
    ·rw[if_pos ⟨hC,rfl⟩]at eT
     repeat' first|refine sP ?_ ?_<;>intro hb<;>(try rw[hb])<;>(try simp only[bb]at hb)<;>(try simp only[within]at hb)<;>try simp only[go_sem,hlt',u1]|refine aI ?_|with_reducible refine cq h58 ?_|with_reducible refine cq h59 ?_|with_reducible refine cq h54 ?_|simp only[go_sem,hlt',u1]
     all_goals first
      |(exfalso;omega)
      |exact .base (by(first|exact wk_same (by simp only[go_sem,ic,eT])|(refine wk_drop ?_ ?_ ?_ ?_ ?_<;>simp only[go_sem,ic,eT])))
    ·rw[if_neg (fun q=>hC q.1)]at eT
     repeat' first|refine sP ?_ ?_<;>intro hb<;>(try rw[hb])<;>(try simp only[bb]at hb)<;>(try simp only[within]at hb)<;>try simp only[go_sem,hlt',u1]|refine aI ?_|with_reducible refine cq h58 ?_|with_reducible refine cq h59 ?_|with_reducible refine cq h54 ?_|simp only[go_sem,hlt',u1]
     all_goals first
      |(exfalso;omega)
      |exact .base (by(first|exact wk_same (by simp only[go_sem,ic,eT])|(refine wk_drop ?_ ?_ ?_ ?_ ?_<;>simp only[go_sem,ic,eT])))
  ·have hge': ¬(i:Int)<(2^h.ts.length:Nat):=by omega
   have:i=2^h.ts.length:=by omega
   subst this
   repeat' first|refine sP ?_ ?_<;>intro hb<;>(try rw[hb])<;>(try simp only[bb]at hb)<;>(try simp only[within]at hb)<;>try simp only[go_sem,hge']|refine aI ?_|simp only[go_sem,hge']
 ·rw[if_neg hk]
  have h37:=c55 h
  rw[show checkG h=40 from if_neg hk]at h37
  refine pB Tryz.func131 fun hlen=>CV.run ?_
  simp only[Tryz.f131]
  simp only[go_sem,length_map,and_true,true_and]at hlen
  repeat' first|refine sP ?_ ?_<;>intro hb<;>(try rw[hb])<;>(try simp only[bb]at hb)<;>(try simp only[within]at hb)<;>try simp only[go_sem]|refine aI ?_|with_reducible refine cq h37 ?_|simp only[go_sem]
end Go.Proofs.YtoadkchhimojlaaGreatDoor.T4
namespace Go.Proofs.YtoadkchhimojlaaGreatDoor.OV
open Go Go.Fl
open Classical
abbrev Str:=List UInt8
theorem pureStrs(l:List Str):pureE (strs l)=True:=pureE_map fun _=>rfl
theorem strs_get(l:List Str)(j:Nat):(strs l)[j]? =(l[j]?).map fun s=>[AV.lf (.str s)]:=by simp[strs]
theorem strs_drop(l:List Str)(j:Nat):(strs l).drop j=strs (l.drop j):=by simp[strs]
attribute [go_sem] pureStrs strs_len strs_get strs_drop
def okT:Str:=[111,107]
def noT:Str:=[110,111]
def wordS(b:Bool):Str:=if b then okT else noT
theorem c60(b:Bool):PC prog 60 [.int .i64 (if b then 1 else 0)] (.str (wordS b)):=by
 cases b
 ·simp only[Bool.false_eq_true,if_false]
  refine pB Tryz.func60 fun hlen=>CV.run ?_
  simp only[Tryz.f60]
  simp only[go_sem,length_map,and_true,true_and]at hlen
  repeat' first|refine sP ?_ ?_<;>intro hb<;>(try rw[hb])<;>(try simp only[bb]at hb)<;>try simp only[go_sem,wordS,noT]|refine aI ?_|simp only[go_sem,wordS,noT]
 ·simp only[if_true]
  refine pB Tryz.func60 fun hlen=>CV.run ?_
  simp only[Tryz.f60]
  simp only[go_sem,length_map,and_true,true_and]at hlen
  repeat' first|refine sP ?_ ?_<;>intro hb<;>(try rw[hb])<;>(try simp only[bb]at hb)<;>try simp only[go_sem,wordS,okT]|refine aI ?_|simp only[go_sem,wordS,okT]
def numF(w:Str):Option Int:=match Lib.atoiAll w with
 | .ok v=>if Lib.itoa v=w∧(Lib.trimPrefix w [45]).length≤6 then some v else none
 |_=>none
def allNum(ws:List Str):Prop:= ∀w,w∈ws→(numF w).isSome=true
def numsL(ws:List Str):List Int:=ws.map fun w=>(numF w).getD 0
noncomputable def numsX(ws:List Str):List Int:=if allNum ws then numsL ws else []
noncomputable abbrev numsV(ws:List Str):AV:= .tup [lN (numsX ws),.bool (decide (allNum ws))]
def shortW(ws:List Str):Prop:= ∀w,w∈ws→w.length≤60
theorem c63(ws:List Str)(hs:shortW ws)(hl:ws.length≤61):PC prog 63 [.lst false 1 (strs ws)] (numsV ws):=by
 refine pB Tryz.func63 fun hlen=>CV.run ?_
 simp only[Tryz.f63]
 simp only[go_sem,length_map,and_true,true_and]at hlen
 repeat' first|refine sP ?_ ?_<;>intro hb<;>(try rw[hb])<;>(try simp only[bb]at hb)<;>try simp only[go_sem]|refine aI ?_|simp only[go_sem]
 have tk: ∀j:Nat,j<ws.length→(numsL ws).take (j+1)=(numsL ws).take j++[(numF (ws.getD j [])).getD 0]:=by
  intro j hj
  rw[List.take_add_one]
  simp[numsL,List.getElem?_map,List.getElem?_eq_getElem hj]
 have tl: ∀j:Nat,j≤ws.length→((numsL ws).take j).length=j:=fun j hj=>by rw[List.length_take,numsL,length_map];omega
 refine vc_fw (fun j=>⟨[(10,.int .i64 j),(9,.int .i64 ws.length),(8,.lst false 1 (strs ws)),(2,.row 0 ((numsL ws).take j).length),(3,.bool false)],[.row 3 1 (((numsL ws).take j).map encN) false]⟩) ws.length (fun j=> ∀k,k<j→ ∀w,ws[k]? =some w→(numF w).isSome=true) (.nilE 2 3 1 rfl (by omega) (.base (by(first|exact wk_same (by simp only[go_sem,ic,List.take_zero,map_nil])|(refine wk_drop ?_ ?_ ?_ ?_ ?_<;>simp only[go_sem,ic,List.take_zero,map_nil]))))) (fun k h=>by omega) ?_
 intro j hj hx
 rcases Nat.lt_or_ge j ws.length with hlt|hge
 ·obtain⟨w,hw⟩:=get_of hlt
  have hlt':(j:Int)<ws.length:=by omega
  have hwl:=hs w (List.mem_of_getElem? hw)
  have h144:=c144 w (by omega)
  have htj:=tl j hj
  have no:numF w=none→numsX ws=[]∧decide (allNum ws)=false:=fun hn=>by
   have q: ¬allNum ws:=fun q=>by have:=q w (List.mem_of_getElem? hw);rw[hn]at this;cases this
   exact⟨if_neg q,decide_eq_false q⟩
  unfold atoiV at h144
  cases ha:Lib.atoiAll w with
  |ok v=>
   rw[ha]at h144
   have hv:I64 v:=Lib.atoiAll_bounds ha
   have h109:=c109 v hv
   have h145:=c145 w [45]
   by_cases h1:Lib.itoa v=w
   ·have h1':Lib.itoa v=w:=h1
    rw[h1]at h109
    by_cases h2:(Lib.trimPrefix w [45]).length≤6
    ·have h2': ¬6<((Lib.trimPrefix w [45]).length:Int):=by omega
     have hn:numF w=some v:=by unfold numF;rw[ha];exact if_pos ⟨h1,h2⟩
     have e:=tk j hlt
     have hg:ws.getD j []=w:=by simp[List.getD,hw]
     rw[hg,hn]at e
     repeat' first|refine sP ?_ ?_<;>intro hb<;>(try rw[hb])<;>(try simp only[bb]at hb)<;>try simp only[go_sem,hlt',hw,h2',h1]|refine aI ?_|with_reducible refine cq h144 ?_|with_reducible refine cq h109 ?_|with_reducible refine cq h145 ?_|simp only[go_sem,hlt',hw,h2',h1]
     refine⟨.base (by(first|exact wk_same (by simp only[go_sem,ic,e,encN,map_append,List.length_append,Option.getD_some])|(refine wk_drop ?_ ?_ ?_ ?_ ?_<;>simp only[go_sem,ic,e,encN,map_append,List.length_append,Option.getD_some]))),fun k hk u hu=>?_⟩
     rcases Nat.lt_or_ge k j with h|h
     ·exact hx k h u hu
     ·obtain rfl:k=j:=by omega
      rw[hw]at hu;cases hu
      rw[hn];rfl
    ·have h2':6<((Lib.trimPrefix w [45]).length:Int):=by omega
     have hn:numF w=none:=by unfold numF;rw[ha];exact if_neg fun q=>h2 q.2
     obtain⟨n1,n2⟩:=no hn
     repeat' first|refine sP ?_ ?_<;>intro hb<;>(try rw[hb])<;>(try simp only[bb]at hb)<;>try simp only[go_sem,hlt',hw,h2',h1,n1,n2,map_nil]|refine aI ?_|with_reducible refine cq h144 ?_|with_reducible refine cq h109 ?_|with_reducible refine cq h145 ?_|simp only[go_sem,hlt',hw,h2',h1,n1,n2,map_nil]
   ·have hn:numF w=none:=by unfold numF;rw[ha];exact if_neg fun q=>h1 q.1
    obtain⟨n1,n2⟩:=no hn
    repeat' first|refine sP ?_ ?_<;>intro hb<;>(try rw[hb])<;>(try simp only[bb]at hb)<;>try simp only[go_sem,hlt',hw,h1,n1,n2,map_nil]|refine aI ?_|with_reducible refine cq h144 ?_|with_reducible refine cq h109 ?_|with_reducible refine cq h145 ?_|simp only[go_sem,hlt',hw,h1,n1,n2,map_nil]
  |range=>
   rw[ha]at h144
   have hn:numF w=none:=by unfold numF;rw[ha]
   obtain⟨n1,n2⟩:=no hn
   repeat' first|refine sP ?_ ?_<;>intro hb<;>(try rw[hb])<;>(try simp only[bb]at hb)<;>try simp only[go_sem,hlt',hw,n1,n2,map_nil]|refine aI ?_|with_reducible refine cq h144 ?_|simp only[go_sem,hlt',hw,n1,n2,map_nil]
  |_=>
   rw[ha]at h144
   have hn:numF w=none:=by unfold numF;rw[ha]
   obtain⟨n1,n2⟩:=no hn
   repeat' first|refine sP ?_ ?_<;>intro hb<;>(try rw[hb])<;>(try simp only[bb]at hb)<;>try simp only[go_sem,hlt',hw,n1,n2,map_nil]|refine aI ?_|with_reducible refine cq h144 ?_|simp only[go_sem,hlt',hw,n1,n2,map_nil]
 ·have hge': ¬(j:Int)<ws.length:=by omega
  obtain rfl:j=ws.length:=by omega
  have hall:allNum ws:=fun w hw=>by
   obtain⟨k,hk,he⟩:=List.getElem_of_mem hw
   exact hx k hk w (by rw[List.getElem?_eq_getElem hk,he])
  have ht:(numsL ws).take ws.length=numsL ws:=take_of_length_le (by simp[numsL])
  have n1:numsX ws=numsL ws:=if_pos hall
  have n2:decide (allNum ws)=true:=decide_eq_true hall
  repeat' first|refine sP ?_ ?_<;>intro hb<;>(try rw[hb])<;>(try simp only[bb]at hb)<;>try simp only[go_sem,hge',ht,frzE_self,pureN,n1,n2]|refine aI ?_|simp only[go_sem,hge',ht,frzE_self,pureN,n1,n2]
def sZ07b_f111(_:Nat):List (Nat×Nat):=[(0,1),(0,0),(0,0),(0,0),(0,0),(0,0),(0,0),(0,0),(0,0),(0,0),(0,0),(0,0),(0,0),(0,0),(0,0),(99,0),(1,1),(0,0)]
def sZ07b_f115(_:Nat):List (Nat×Nat):=[(0,1),(0,0),(0,0),(0,0),(0,0),(0,0),(0,0),(0,0),(0,0),(0,0),(0,0),(0,0),(0,0),(0,0),(0,0),(99,0),(1,1),(0,0)]
def sZ07b_f119(_:Nat):List (Nat×Nat):=[(0,1),(0,0),(0,0),(0,0),(0,0),(0,0),(0,0),(0,0),(0,0),(0,0),(0,0),(0,0),(0,0),(0,0),(0,0),(99,0),(1,1),(0,0)]
attribute [go_sem] sZ07b_f111 sZ07b_f115 sZ07b_f119
structure Town where
 h:House
 s:W2.Shop
abbrev cT(t:Town):List AV:=[.lst false 3 (t.h.ms.map encM),.lst false 3 (t.h.bs.map encB),lN t.h.ts,.int .i64 t.h.ch,.lst false 3 (t.s.ms.map W2.encD),.lst false 1 (t.s.ws.map W2.encW),lN t.s.wt,.int .i64 t.s.fr]
abbrev hT(t:Town):AV:= .agg (cT t)
abbrev z35:List AV:=[.nilS,.nilS,.nilS,.int .i64 0,.nilS,.nilS,.nilS,.int .i64 0]
abbrev HO(t:Town)(c:List AV):Heap:=[.box 35 (cT t) false,.box 35 z35 false,.box 35 c false]
def vT(t:Town):Prop:=okG t.h∧W2.valid t.s
theorem c22(t:Town):PC prog 22 [hT t] (.int .i64 (if vT t then 0 else 120)):=by
 refine pB Tryz.func22 fun hlen=>CV.run ?_
 simp only[Tryz.f22]
 simp only[go_sem,length_map,and_true,true_and]at hlen
 repeat' first|refine sP ?_ ?_<;>intro hb<;>(try rw[hb])<;>(try simp only[bb]at hb)<;>try simp only[go_sem,checkG0,W2.check0]|refine aI ?_|with_reducible refine cq (c55 t.h) ?_|with_reducible refine cq (W2.c56 t.s) ?_|simp only[go_sem,checkG0,W2.check0]
 ·rw[if_neg fun q=>hb q.1]
 ·rw[if_neg fun q=>hb q.2]
 ·rw[if_pos ⟨by assumption,by assumption⟩]
theorem tkl{α β:Type}(f:α→β)(l:List α):List.take l.length (l.map f)=l.map f:=take_of_length_le (by simp)
abbrev n111(t:Town)(x:Mach):Heap:=HO t [.lst false 3 ((t.h.ms++[x]).map encM),.lst false 3 (t.h.bs.map encB),lN t.h.ts,.int .i64 t.h.ch,.lst false 3 (t.s.ms.map W2.encD),.lst false 1 (t.s.ws.map W2.encW),lN t.s.wt,.int .i64 t.s.fr]
theorem h111(t:Town)(x:Mach)(hv:vT t):HCH prog 111 [.lp 2 0,.agg (encM x)] (HO t (cT t)) fun r H'=>r= .bool true∧H'=n111 t x:=by
 have hl:=hv.1.2.1
 refine HCH.bodyN Tryz.func111 (by kernel_rfl) rfl (by simp[Tryz.f111]) ?_
 simp only[Tryz.f111]
 refine CV.run ?_
 repeat' first|refine sP ?_ ?_<;>intro hb<;>(try rw[hb])<;>(try simp only[bb]at hb)<;>try simp only[go_sem,encM,tkl]|refine aI ?_|with_reducible refine dw sZ07b_f111 ?_|simp only[go_sem,encM,tkl]
 refine⟨⟨⟨by first|omega|(simp only[length_map];omega),by first|omega|(simp only[length_map];omega),.inr (by simp)⟩,by simp⟩,⟨[(4,.bool true)],n111 t x⟩,.base (by(first|exact wk_same (by simp only[go_sem,ic,encM,map_append,map_cons,map_nil])|(refine wk_drop ?_ ?_ ?_ ?_ ?_<;>simp only[go_sem,ic,encM,map_append,map_cons,map_nil]))),rfl,rfl⟩
abbrev n115(t:Town)(x:Int):Heap:=HO t [.lst false 3 (t.h.ms.map encM),.lst false 3 (t.h.bs.map encB),.lst false 1 ((t.h.ts++[x]).map encN),.int .i64 t.h.ch,.lst false 3 (t.s.ms.map W2.encD),.lst false 1 (t.s.ws.map W2.encW),lN t.s.wt,.int .i64 t.s.fr]
theorem h115(t:Town)(x:Int)(hv:vT t):HCH prog 115 [.lp 2 2,.int .i64 x] (HO t (cT t)) fun r H'=>r= .bool true∧H'=n115 t x:=by
 have hl:=hv.1.2.2.1
 refine HCH.bodyN Tryz.func115 (by kernel_rfl) rfl (by simp[Tryz.f115]) ?_
 simp only[Tryz.f115]
 refine CV.run ?_
 repeat' first|refine sP ?_ ?_<;>intro hb<;>(try rw[hb])<;>(try simp only[bb]at hb)<;>try simp only[go_sem,encN,tkl]|refine aI ?_|with_reducible refine dw sZ07b_f115 ?_|simp only[go_sem,encN,tkl]
 refine⟨⟨⟨by first|omega|(simp only[length_map];omega),by first|omega|(simp only[length_map];omega),.inr (by simp)⟩,by simp⟩,⟨[(4,.bool true)],n115 t x⟩,.base (by(first|exact wk_same (by simp only[go_sem,ic,encN,map_append,map_cons,map_nil])|(refine wk_drop ?_ ?_ ?_ ?_ ?_<;>simp only[go_sem,ic,encN,map_append,map_cons,map_nil]))),rfl,rfl⟩
abbrev n119(t:Town)(x:Bun):Heap:=HO t [.lst false 3 (t.h.ms.map encM),.lst false 3 ((t.h.bs++[x]).map encB),lN t.h.ts,.int .i64 t.h.ch,.lst false 3 (t.s.ms.map W2.encD),.lst false 1 (t.s.ws.map W2.encW),lN t.s.wt,.int .i64 t.s.fr]
theorem h119(t:Town)(x:Bun)(hv:vT t):HCH prog 119 [.lp 2 1,.agg (encB x)] (HO t (cT t)) fun r H'=>r= .bool true∧H'=n119 t x:=by
 have hl:=hv.1.2.2.2.1
 refine HCH.bodyN Tryz.func119 (by kernel_rfl) rfl (by simp[Tryz.f119]) ?_
 simp only[Tryz.f119]
 refine CV.run ?_
 repeat' first|refine sP ?_ ?_<;>intro hb<;>(try rw[hb])<;>(try simp only[bb]at hb)<;>try simp only[go_sem,encB,tkl]|refine aI ?_|with_reducible refine dw sZ07b_f119 ?_|simp only[go_sem,encB,tkl]
 refine⟨⟨⟨by first|omega|(simp only[length_map];omega),by first|omega|(simp only[length_map];omega),.inr (by simp)⟩,by simp⟩,⟨[(4,.bool true)],n119 t x⟩,.base (by(first|exact wk_same (by simp only[go_sem,ic,encB,map_append,map_cons,map_nil])|(refine wk_drop ?_ ?_ ?_ ?_ ?_<;>simp only[go_sem,ic,encB,map_append,map_cons,map_nil]))),rfl,rfl⟩
theorem shift_mapM{n:Nat}{l:List Mach}:List.map (shiftL n) (List.map encM l)=List.map encM l:=by
 rw[List.map_map];exact List.map_congr_left fun a _=>by simp[encM,shiftL,shiftV]
attribute [go_sem] shift_mapM
theorem h67(l:List Mach)(hl:l.length≤1000):HCH prog 67 [.lst false 3 (l.map encM)] [] fun r H'=>r= .row 0 l.length∧H'=[.row 110 3 (l.map encM) false]:=by
 refine HCH.bodyN Tryz.func67 (by kernel_rfl) rfl (by simp[Tryz.f67]) ?_
 simp only[Tryz.f67]
 refine CV.run ?_
 repeat' first|refine sP ?_ ?_<;>intro hb<;>(try rw[hb])<;>(try simp only[bb]at hb)<;>try simp only[go_sem]|refine aI ?_|simp only[go_sem]
 ·have:l=[]:=by simpa using hb
  subst this
  exact⟨_,.nilE 2 110 3 (by(simp only[go_sem])) (by omega) (.base (wk_same (env':=[(2,.row 0 0)]) (by(simp only[go_sem])))),rfl,rfl⟩
 ·exact⟨⟨by omega,by omega,.inl trivial⟩,_,.base (wk_same (env':=[(2,.row 0 l.length)]) (by(simp only[go_sem]))),rfl,rfl⟩
theorem h70(l:List W2.Mould)(hl:l.length≤1000):HCH prog 70 [.lst false 3 (l.map W2.encD)] [] fun r H'=>r= .row 0 l.length∧H'=[.row 113 3 (l.map W2.encD) false]:=by
 refine HCH.bodyN Tryz.func70 (by kernel_rfl) rfl (by simp[Tryz.f70]) ?_
 simp only[Tryz.f70]
 refine CV.run ?_
 repeat' first|refine sP ?_ ?_<;>intro hb<;>(try rw[hb])<;>(try simp only[bb]at hb)<;>try simp only[go_sem]|refine aI ?_|simp only[go_sem]
 ·have:l=[]:=by simpa using hb
  subst this
  exact⟨_,.nilE 2 113 3 (by(simp only[go_sem])) (by omega) (.base (wk_same (env':=[(2,.row 0 0)]) (by(simp only[go_sem])))),rfl,rfl⟩
 ·exact⟨⟨by omega,by omega,.inl trivial⟩,_,.base (wk_same (env':=[(2,.row 0 l.length)]) (by(simp only[go_sem]))),rfl,rfl⟩
abbrev a113m(t:Town)(l:List Mach):Heap:=HO t [.row 3 t.h.ms.length,.lst false 3 (t.h.bs.map encB),lN t.h.ts,.int .i64 t.h.ch,.lst false 3 (t.s.ms.map W2.encD),.lst false 1 (t.s.ws.map W2.encW),lN t.s.wt,.int .i64 t.s.fr]++[.row 110 3 (l.map encM) false]
theorem h113m(t:Town)(i:Int)(hv:vT t)(h0:0≤i)(h1:i<t.h.ms.length):HCH prog 113 [.lp 2 0,.int .i64 i] (HO t (cT t)) fun r H'=>r= .tup [.rp 3 t.h.ms.length i.toNat 0,.bool true]∧H'=a113m t t.h.ms:=by
 have hl:=hv.1.2.1
 have h0': ¬i<0:=by omega
 have h1': ¬(t.h.ms.length:Int)≤i:=by omega
 refine HCH.bodyN Tryz.func113 (by kernel_rfl) rfl (by simp[Tryz.f113]) ?_
 simp only[Tryz.f113]
 refine CV.run ?_
 repeat' first|refine sP ?_ ?_<;>intro hb<;>(try rw[hb])<;>(try simp only[bb]at hb)<;>try simp only[go_sem,h0',h1']|refine aI ?_|simp only[go_sem,h0',h1']
 refine vcP_new (h67 t.h.ms (by omega)) rfl ?_
 repeat' first|refine sP ?_ ?_<;>intro hb<;>(try rw[hb])<;>(try simp only[bb]at hb)<;>try simp only[go_sem,h0,h1,length_map]|refine aI ?_|simp only[go_sem,h0,h1,length_map]
 exact⟨⟨[(4,.rp 3 t.h.ms.length i.toNat 0),(5,.bool true)],a113m t t.h.ms⟩,.base (by exact w0),rfl,rfl⟩
theorem h113m0(t:Town)(i:Int)(h: ¬(0≤i∧i<t.h.ms.length)):HCH prog 113 [.lp 2 0,.int .i64 i] (HO t (cT t)) fun r H'=>r= .tup [.nilP,.bool false]∧H'=HO t (cT t):=by
 refine HCH.bodyN Tryz.func113 (by kernel_rfl) rfl (by simp[Tryz.f113]) ?_
 simp only[Tryz.f113]
 refine CV.run ?_
 by_cases h0:i<0
 ·repeat' first|refine sP ?_ ?_<;>intro hb<;>(try rw[hb])<;>(try simp only[bb]at hb)<;>try simp only[go_sem,h0]|refine aI ?_|simp only[go_sem,h0]
  exact⟨⟨[(4,.nilP),(5,.bool false)],HO t (cT t)⟩,.base (by exact w0),rfl,rfl⟩
 ·have h1:(t.h.ms.length:Int)≤i:=by omega
  repeat' first|refine sP ?_ ?_<;>intro hb<;>(try rw[hb])<;>(try simp only[bb]at hb)<;>try simp only[go_sem,h0,h1]|refine aI ?_|simp only[go_sem,h0,h1]
  exact⟨⟨[(4,.nilP),(5,.bool false)],HO t (cT t)⟩,.base (by exact w0),rfl,rfl⟩
abbrev a117t(t:Town)(l:List Int):Heap:=HO t [.lst false 3 (t.h.ms.map encM),.lst false 3 (t.h.bs.map encB),.row 3 t.h.ts.length,.int .i64 t.h.ch,.lst false 3 (t.s.ms.map W2.encD),.lst false 1 (t.s.ws.map W2.encW),lN t.s.wt,.int .i64 t.s.fr]++[.row 3 1 (l.map encN) false]
theorem h117t(t:Town)(i:Int)(hv:vT t)(h0:0≤i)(h1:i<t.h.ts.length):HCH prog 117 [.lp 2 2,.int .i64 i] (HO t (cT t)) fun r H'=>r= .tup [.rp 3 t.h.ts.length i.toNat 0,.bool true]∧H'=a117t t t.h.ts:=by
 have hl:=hv.1.2.2.1
 have h0': ¬i<0:=by omega
 have h1': ¬(t.h.ts.length:Int)≤i:=by omega
 refine HCH.bodyN Tryz.func117 (by kernel_rfl) rfl (by simp[Tryz.f117]) ?_
 simp only[Tryz.f117]
 refine CV.run ?_
 repeat' first|refine sP ?_ ?_<;>intro hb<;>(try rw[hb])<;>(try simp only[bb]at hb)<;>try simp only[go_sem,h0',h1']|refine aI ?_|simp only[go_sem,h0',h1']
 refine vcP_new (W2.h69 t.h.ts (by omega)) rfl ?_
 repeat' first|refine sP ?_ ?_<;>intro hb<;>(try rw[hb])<;>(try simp only[bb]at hb)<;>try simp only[go_sem,h0,h1,length_map]|refine aI ?_|simp only[go_sem,h0,h1,length_map]
 exact⟨⟨[(4,.rp 3 t.h.ts.length i.toNat 0),(5,.bool true)],a117t t t.h.ts⟩,.base (by exact w0),rfl,rfl⟩
theorem h117t0(t:Town)(i:Int)(h: ¬(0≤i∧i<t.h.ts.length)):HCH prog 117 [.lp 2 2,.int .i64 i] (HO t (cT t)) fun r H'=>r= .tup [.nilP,.bool false]∧H'=HO t (cT t):=by
 refine HCH.bodyN Tryz.func117 (by kernel_rfl) rfl (by simp[Tryz.f117]) ?_
 simp only[Tryz.f117]
 refine CV.run ?_
 by_cases h0:i<0
 ·repeat' first|refine sP ?_ ?_<;>intro hb<;>(try rw[hb])<;>(try simp only[bb]at hb)<;>try simp only[go_sem,h0]|refine aI ?_|simp only[go_sem,h0]
  exact⟨⟨[(4,.nilP),(5,.bool false)],HO t (cT t)⟩,.base (by exact w0),rfl,rfl⟩
 ·have h1:(t.h.ts.length:Int)≤i:=by omega
  repeat' first|refine sP ?_ ?_<;>intro hb<;>(try rw[hb])<;>(try simp only[bb]at hb)<;>try simp only[go_sem,h0,h1]|refine aI ?_|simp only[go_sem,h0,h1]
  exact⟨⟨[(4,.nilP),(5,.bool false)],HO t (cT t)⟩,.base (by exact w0),rfl,rfl⟩
abbrev a117w(t:Town)(l:List Int):Heap:=HO t [.lst false 3 (t.h.ms.map encM),.lst false 3 (t.h.bs.map encB),lN t.h.ts,.int .i64 t.h.ch,.lst false 3 (t.s.ms.map W2.encD),.lst false 1 (t.s.ws.map W2.encW),.row 3 t.s.wt.length,.int .i64 t.s.fr]++[.row 3 1 (l.map encN) false]
theorem h117w(t:Town)(i:Int)(hv:vT t)(h0:0≤i)(h1:i<t.s.wt.length):HCH prog 117 [.lp 2 6,.int .i64 i] (HO t (cT t)) fun r H'=>r= .tup [.rp 3 t.s.wt.length i.toNat 0,.bool true]∧H'=a117w t t.s.wt:=by
 have hl:=hv.2.1
 have h0': ¬i<0:=by omega
 have h1': ¬(t.s.wt.length:Int)≤i:=by omega
 refine HCH.bodyN Tryz.func117 (by kernel_rfl) rfl (by simp[Tryz.f117]) ?_
 simp only[Tryz.f117]
 refine CV.run ?_
 repeat' first|refine sP ?_ ?_<;>intro hb<;>(try rw[hb])<;>(try simp only[bb]at hb)<;>try simp only[go_sem,h0',h1']|refine aI ?_|simp only[go_sem,h0',h1']
 refine vcP_new (W2.h69 t.s.wt (by omega)) rfl ?_
 repeat' first|refine sP ?_ ?_<;>intro hb<;>(try rw[hb])<;>(try simp only[bb]at hb)<;>try simp only[go_sem,h0,h1,length_map]|refine aI ?_|simp only[go_sem,h0,h1,length_map]
 exact⟨⟨[(4,.rp 3 t.s.wt.length i.toNat 0),(5,.bool true)],a117w t t.s.wt⟩,.base (by exact w0),rfl,rfl⟩
theorem h117w0(t:Town)(i:Int)(h: ¬(0≤i∧i<t.s.wt.length)):HCH prog 117 [.lp 2 6,.int .i64 i] (HO t (cT t)) fun r H'=>r= .tup [.nilP,.bool false]∧H'=HO t (cT t):=by
 refine HCH.bodyN Tryz.func117 (by kernel_rfl) rfl (by simp[Tryz.f117]) ?_
 simp only[Tryz.f117]
 refine CV.run ?_
 by_cases h0:i<0
 ·repeat' first|refine sP ?_ ?_<;>intro hb<;>(try rw[hb])<;>(try simp only[bb]at hb)<;>try simp only[go_sem,h0]|refine aI ?_|simp only[go_sem,h0]
  exact⟨⟨[(4,.nilP),(5,.bool false)],HO t (cT t)⟩,.base (by exact w0),rfl,rfl⟩
 ·have h1:(t.s.wt.length:Int)≤i:=by omega
  repeat' first|refine sP ?_ ?_<;>intro hb<;>(try rw[hb])<;>(try simp only[bb]at hb)<;>try simp only[go_sem,h0,h1]|refine aI ?_|simp only[go_sem,h0,h1]
  exact⟨⟨[(4,.nilP),(5,.bool false)],HO t (cT t)⟩,.base (by exact w0),rfl,rfl⟩
abbrev a122d(t:Town)(l:List W2.Mould):Heap:=HO t [.lst false 3 (t.h.ms.map encM),.lst false 3 (t.h.bs.map encB),lN t.h.ts,.int .i64 t.h.ch,.row 3 t.s.ms.length,.lst false 1 (t.s.ws.map W2.encW),lN t.s.wt,.int .i64 t.s.fr]++[.row 113 3 (l.map W2.encD) false]
theorem h122d(t:Town)(i:Int)(hv:vT t)(h0:0≤i)(h1:i<t.s.ms.length):HCH prog 122 [.lp 2 4,.int .i64 i] (HO t (cT t)) fun r H'=>r= .tup [.rp 3 t.s.ms.length i.toNat 0,.bool true]∧H'=a122d t t.s.ms:=by
 have hl:=hv.2.2.1
 have h0': ¬i<0:=by omega
 have h1': ¬(t.s.ms.length:Int)≤i:=by omega
 refine HCH.bodyN Tryz.func122 (by kernel_rfl) rfl (by simp[Tryz.f122]) ?_
 simp only[Tryz.f122]
 refine CV.run ?_
 repeat' first|refine sP ?_ ?_<;>intro hb<;>(try rw[hb])<;>(try simp only[bb]at hb)<;>try simp only[go_sem,h0',h1']|refine aI ?_|simp only[go_sem,h0',h1']
 refine vcP_new (h70 t.s.ms (by omega)) rfl ?_
 repeat' first|refine sP ?_ ?_<;>intro hb<;>(try rw[hb])<;>(try simp only[bb]at hb)<;>try simp only[go_sem,h0,h1,length_map]|refine aI ?_|simp only[go_sem,h0,h1,length_map]
 exact⟨⟨[(4,.rp 3 t.s.ms.length i.toNat 0),(5,.bool true)],a122d t t.s.ms⟩,.base (by exact w0),rfl,rfl⟩
theorem h122d0(t:Town)(i:Int)(h: ¬(0≤i∧i<t.s.ms.length)):HCH prog 122 [.lp 2 4,.int .i64 i] (HO t (cT t)) fun r H'=>r= .tup [.nilP,.bool false]∧H'=HO t (cT t):=by
 refine HCH.bodyN Tryz.func122 (by kernel_rfl) rfl (by simp[Tryz.f122]) ?_
 simp only[Tryz.f122]
 refine CV.run ?_
 by_cases h0:i<0
 ·repeat' first|refine sP ?_ ?_<;>intro hb<;>(try rw[hb])<;>(try simp only[bb]at hb)<;>try simp only[go_sem,h0]|refine aI ?_|simp only[go_sem,h0]
  exact⟨⟨[(4,.nilP),(5,.bool false)],HO t (cT t)⟩,.base (by exact w0),rfl,rfl⟩
 ·have h1:(t.s.ms.length:Int)≤i:=by omega
  repeat' first|refine sP ?_ ?_<;>intro hb<;>(try rw[hb])<;>(try simp only[bb]at hb)<;>try simp only[go_sem,h0,h1]|refine aI ?_|simp only[go_sem,h0,h1]
  exact⟨⟨[(4,.nilP),(5,.bool false)],HO t (cT t)⟩,.base (by exact w0),rfl,rfl⟩
def sZ07d_f110(_:Nat):List (Nat×Nat):=[(0,0),(0,0),(0,0),(0,0),(0,0),(0,0),(0,0),(0,0),(0,0),(0,0),(0,0),(0,0),(0,0),(0,0),(0,0),(1,1)]
def sZ07d_f114(_:Nat):List (Nat×Nat):=[(0,0),(0,0),(0,0),(0,0),(0,0),(0,0),(0,0),(0,0),(1,1)]
def sZ07d_f118(_:Nat):List (Nat×Nat):=[(0,0),(0,0),(0,0),(0,0),(0,0),(0,0),(0,0),(0,0),(0,0),(0,0),(0,0),(0,0),(0,0),(0,0),(0,0),(1,1)]
def sZ07d_f112(_:Nat):List (Nat×Nat):=[(0,0),(0,0),(0,0),(0,0),(0,0),(0,0),(0,0),(0,0),(1,1),(1,1),(1,1),(1,1),(1,1)]
attribute [go_sem] sZ07d_f110 sZ07d_f114 sZ07d_f118 sZ07d_f112
theorem dcAt{P:Program}{g:FuncId}{args args':List AV}{dst:Option Nat}{s:DS}{K:DS→Prop}{v:AV}{H H':Heap}(h:HCH P g args H fun r H2=>r=v∧H2=H')(hH:s.HB++s.pb=H)(k:K (dPutC s dst v H')):dCallC P g args args' dst s K:=by
 unfold dCallC;exact⟨v,H',by rw[hH];exact h,k⟩
theorem h110(t:Town)(a b c:Int)(hv:vT t):HCH prog 110 [.lp 2 0,.pp [lN [a,b,c]]] (HO t (cT t)) fun r H'=>r= .bool true∧H'=n111 t ⟨a,b,c⟩:=by
 refine HCH.bodyN Tryz.func110 (by kernel_rfl) rfl (by simp[Tryz.f110]) ?_
 simp only[Tryz.f110]
 refine CV.run ?_
 repeat' first|refine sP ?_ ?_<;>intro hb<;>(try rw[hb])<;>(try simp only[bb]at hb)<;>try simp only[go_sem,encN,map_cons,map_nil]|refine aI ?_|with_reducible refine dw sZ07d_f110 ?_|simp only[go_sem,encN,map_cons,map_nil]
 refine dcAt (h111 t ⟨a,b,c⟩ hv) rfl ?_
 repeat' first|refine sP ?_ ?_<;>intro hb<;>(try rw[hb])<;>(try simp only[bb]at hb)<;>try simp only[go_sem,encN,map_cons,map_nil]|refine aI ?_|with_reducible refine dw sZ07d_f110 ?_|simp only[go_sem,encN,map_cons,map_nil]
 exact⟨⟨[(3,.bool true)],n111 t ⟨a,b,c⟩⟩,.base (by(first|exact wk_same (by simp only[go_sem,ic,encM])|(refine wk_drop ?_ ?_ ?_ ?_ ?_<;>simp only[go_sem,ic,encM]))),rfl,rfl⟩
theorem h114(t:Town)(a:Int)(hv:vT t):HCH prog 114 [.lp 2 0,.pp [lN [a]]] (HO t (cT t)) fun r H'=>r= .bool true∧H'=n115 t a:=by
 refine HCH.bodyN Tryz.func114 (by kernel_rfl) rfl (by simp[Tryz.f114]) ?_
 simp only[Tryz.f114]
 refine CV.run ?_
 repeat' first|refine sP ?_ ?_<;>intro hb<;>(try rw[hb])<;>(try simp only[bb]at hb)<;>try simp only[go_sem,encN,map_cons,map_nil]|refine aI ?_|with_reducible refine dw sZ07d_f114 ?_|simp only[go_sem,encN,map_cons,map_nil]
 refine dcAt (h115 t a hv) rfl ?_
 repeat' first|refine sP ?_ ?_<;>intro hb<;>(try rw[hb])<;>(try simp only[bb]at hb)<;>try simp only[go_sem,encN,map_cons,map_nil]|refine aI ?_|with_reducible refine dw sZ07d_f114 ?_|simp only[go_sem,encN,map_cons,map_nil]
 exact⟨⟨[(3,.bool true)],n115 t a⟩,.base (by(first|exact wk_same (by simp only[go_sem,ic,encN])|(refine wk_drop ?_ ?_ ?_ ?_ ?_<;>simp only[go_sem,ic,encN]))),rfl,rfl⟩
theorem h118(t:Town)(a b c:Int)(hv:vT t):HCH prog 118 [.lp 2 0,.pp [lN [a,b,c]]] (HO t (cT t)) fun r H'=>r= .bool true∧H'=n119 t ⟨a,b,c⟩:=by
 refine HCH.bodyN Tryz.func118 (by kernel_rfl) rfl (by simp[Tryz.f118]) ?_
 simp only[Tryz.f118]
 refine CV.run ?_
 repeat' first|refine sP ?_ ?_<;>intro hb<;>(try rw[hb])<;>(try simp only[bb]at hb)<;>try simp only[go_sem,encN,map_cons,map_nil]|refine aI ?_|with_reducible refine dw sZ07d_f118 ?_|simp only[go_sem,encN,map_cons,map_nil]
 refine dcAt (h119 t ⟨a,b,c⟩ hv) rfl ?_
 repeat' first|refine sP ?_ ?_<;>intro hb<;>(try rw[hb])<;>(try simp only[bb]at hb)<;>try simp only[go_sem,encN,map_cons,map_nil]|refine aI ?_|with_reducible refine dw sZ07d_f118 ?_|simp only[go_sem,encN,map_cons,map_nil]
 exact⟨⟨[(3,.bool true)],n119 t ⟨a,b,c⟩⟩,.base (by(first|exact wk_same (by simp only[go_sem,ic,encB])|(refine wk_drop ?_ ?_ ?_ ?_ ?_<;>simp only[go_sem,ic,encB]))),rfl,rfl⟩
abbrev gapT(t:Town)(a:Int):Town:=⟨⟨t.h.ms,t.h.bs,t.h.ts,a⟩,t.s⟩
theorem h120(t:Town)(a:Int):HCH prog 120 [.lp 2 0,.pp [lN [a]]] (HO t (cT t)) fun r H'=>r= .bool true∧H'=HO t (cT (gapT t a)):=by
 refine HCH.bodyN Tryz.func120 (by kernel_rfl) rfl (by simp[Tryz.f120]) ?_
 simp only[Tryz.f120]
 refine CV.run ?_
 repeat' first|refine sP ?_ ?_<;>intro hb<;>(try rw[hb])<;>(try simp only[bb]at hb)<;>try simp only[go_sem,encN,map_cons,map_nil]|refine aI ?_|simp only[go_sem,encN,map_cons,map_nil]
 exact⟨⟨[(3,.bool true)],HO t (cT (gapT t a))⟩,.base (by exact w0),rfl,rfl⟩
theorem set_map{α:Type}(f:α→List AV)(l:List α)(k:Nat)(x:α)(y:List AV)(h:y=f x):(l.map f).set k y=(l.set k x).map f:=by rw[h,List.map_set]
def ix0(i:Int)(n:Nat):Prop:=0≤i∧i<n
def stM(l:List Mach)(i n:Int):List Mach:=l.modify i.toNat fun m=>⟨m.ready,m.pace,n⟩
theorem modify_set{α:Type}{l:List α}{k:Nat}{x:α}(f:α→α)(h:l[k]? =some x):l.modify k f=l.set k (f x):=by
 apply List.ext_getElem?
 intro j
 rw[List.getElem?_modify,List.getElem?_set]
 by_cases e:k=j
 ·subst e
  have:=(List.getElem?_eq_some_iff.1 h).1
  rw[h];simp[this]
 ·simp[e]
theorem h112(t:Town)(i n:Int)(hv:vT t)(h:ix0 i t.h.ms.length):HCH prog 112 [.lp 2 0,.pp [lN [i,n]]] (HO t (cT t)) fun r H'=>r= .bool true∧H'=a113m t (stM t.h.ms i n):=by
 obtain⟨h0,h1⟩:=h
 have hk:i.toNat<t.h.ms.length:=by omega
 obtain⟨m,hm⟩:=get_of hk
 have e:=modify_set (fun m:Mach=>⟨m.ready,m.pace,n⟩) hm
 have e2:=set_map encM t.h.ms i.toNat ⟨m.ready,m.pace,n⟩ [.int .i64 m.ready,.int .i64 m.pace,.int .i64 n] rfl
 refine HCH.bodyN Tryz.func112 (by kernel_rfl) rfl (by simp[Tryz.f112]) ?_
 simp only[Tryz.f112]
 refine CV.run ?_
 repeat' first|refine sP ?_ ?_<;>intro hb<;>(try rw[hb])<;>(try simp only[bb]at hb)<;>try simp only[go_sem,encN,map_cons,map_nil,hm,hk,length_map]|refine aI ?_|with_reducible refine dw sZ07d_f112 ?_|simp only[go_sem,encN,map_cons,map_nil,hm,hk,length_map]
 refine dcAt (h113m t i hv h0 h1) rfl ?_
 repeat' first|refine sP ?_ ?_<;>intro hb<;>(try rw[hb])<;>(try simp only[bb]at hb)<;>try simp only[go_sem,encN,map_cons,map_nil,hm,hk,length_map]|refine aI ?_|with_reducible refine dw sZ07d_f112 ?_|simp only[go_sem,encN,map_cons,map_nil,hm,hk,length_map]
 exact⟨⟨[(3,.bool true)],a113m t (stM t.h.ms i n)⟩,.base (by(first|exact wk_same (by simp only[go_sem,ic,stM,e,e2,encM])|(refine wk_drop ?_ ?_ ?_ ?_ ?_<;>simp only[go_sem,ic,stM,e,e2,encM]))),rfl,rfl⟩
def sZ07e_f112(_:Nat):List (Nat×Nat):=[(0,0),(0,0),(0,0),(0,0),(0,0),(0,0),(0,0),(0,0),(1,1),(1,1),(1,1),(1,1),(1,1)]
def sZ07e_f116(_:Nat):List (Nat×Nat):=[(0,0),(0,0),(0,0),(0,0),(0,0),(0,0),(0,0),(0,0),(1,1),(1,1),(1,1),(1,1),(1,1)]
def sZ07e_f123(_:Nat):List (Nat×Nat):=[(0,0),(0,0),(0,0),(0,0),(0,0),(0,0),(0,0),(0,0),(1,1),(1,1),(1,1),(1,1),(1,1)]
def sZ07e_f121(_:Nat):List (Nat×Nat):=[(0,0),(0,0),(0,0),(0,0),(0,0),(0,0),(0,0),(0,0),(1,1),(1,1),(1,1),(1,1),(1,1)]
attribute [go_sem] sZ07e_f112 sZ07e_f116 sZ07e_f123 sZ07e_f121
def stI(l:List Int)(i n:Int):List Int:=l.set i.toNat n
theorem h112n(t:Town)(i n:Int)(h: ¬ix0 i t.h.ms.length):HCH prog 112 [.lp 2 0,.pp [lN [i,n]]] (HO t (cT t)) fun r H'=>r= .bool false∧H'=HO t (cT t):=by
 refine HCH.bodyN Tryz.func112 (by kernel_rfl) rfl (by simp[Tryz.f112]) ?_
 simp only[Tryz.f112]
 refine CV.run ?_
 repeat' first|refine sP ?_ ?_<;>intro hb<;>(try rw[hb])<;>(try simp only[bb]at hb)<;>try simp only[go_sem,encN,map_cons,map_nil]|refine aI ?_|with_reducible refine dw sZ07e_f112 ?_|simp only[go_sem,encN,map_cons,map_nil]
 refine dcAt (h113m0 t i h) rfl ?_
 repeat' first|refine sP ?_ ?_<;>intro hb<;>(try rw[hb])<;>(try simp only[bb]at hb)<;>try simp only[go_sem,encN,map_cons,map_nil]|refine aI ?_|with_reducible refine dw sZ07e_f112 ?_|simp only[go_sem,encN,map_cons,map_nil]
 exact⟨⟨[(3,.bool false)],HO t (cT t)⟩,.base (by exact w0),rfl,rfl⟩
theorem h116(t:Town)(i n:Int)(hv:vT t)(h:ix0 i t.h.ts.length):HCH prog 116 [.lp 2 0,.pp [lN [i,n]]] (HO t (cT t)) fun r H'=>r= .bool true∧H'=a117t t (stI t.h.ts i n):=by
 obtain⟨h0,h1⟩:=h
 have hk:i.toNat<t.h.ts.length:=by omega
 obtain⟨m,hm⟩:=get_of hk
 have e2:=set_map encN t.h.ts i.toNat n [.int .i64 n] rfl
 refine HCH.bodyN Tryz.func116 (by kernel_rfl) rfl (by simp[Tryz.f116]) ?_
 simp only[Tryz.f116]
 refine CV.run ?_
 repeat' first|refine sP ?_ ?_<;>intro hb<;>(try rw[hb])<;>(try simp only[bb]at hb)<;>try simp only[go_sem,encN,map_cons,map_nil,hm,hk,length_map]|refine aI ?_|with_reducible refine dw sZ07e_f116 ?_|simp only[go_sem,encN,map_cons,map_nil,hm,hk,length_map]
 refine dcAt (h117t t i hv h0 h1) rfl ?_
 repeat' first|refine sP ?_ ?_<;>intro hb<;>(try rw[hb])<;>(try simp only[bb]at hb)<;>try simp only[go_sem,encN,map_cons,map_nil,hm,hk,length_map]|refine aI ?_|with_reducible refine dw sZ07e_f116 ?_|simp only[go_sem,encN,map_cons,map_nil,hm,hk,length_map]
 exact⟨⟨[(3,.bool true)],a117t t (stI t.h.ts i n)⟩,.base (by(first|exact wk_same (by simp only[go_sem,ic,stI,e2,encN])|(refine wk_drop ?_ ?_ ?_ ?_ ?_<;>simp only[go_sem,ic,stI,e2,encN]))),rfl,rfl⟩
theorem h116n(t:Town)(i n:Int)(h: ¬ix0 i t.h.ts.length):HCH prog 116 [.lp 2 0,.pp [lN [i,n]]] (HO t (cT t)) fun r H'=>r= .bool false∧H'=HO t (cT t):=by
 refine HCH.bodyN Tryz.func116 (by kernel_rfl) rfl (by simp[Tryz.f116]) ?_
 simp only[Tryz.f116]
 refine CV.run ?_
 repeat' first|refine sP ?_ ?_<;>intro hb<;>(try rw[hb])<;>(try simp only[bb]at hb)<;>try simp only[go_sem,encN,map_cons,map_nil]|refine aI ?_|with_reducible refine dw sZ07e_f116 ?_|simp only[go_sem,encN,map_cons,map_nil]
 refine dcAt (h117t0 t i h) rfl ?_
 repeat' first|refine sP ?_ ?_<;>intro hb<;>(try rw[hb])<;>(try simp only[bb]at hb)<;>try simp only[go_sem,encN,map_cons,map_nil]|refine aI ?_|with_reducible refine dw sZ07e_f116 ?_|simp only[go_sem,encN,map_cons,map_nil]
 exact⟨⟨[(3,.bool false)],HO t (cT t)⟩,.base (by exact w0),rfl,rfl⟩
theorem h123(t:Town)(i n:Int)(hv:vT t)(h:ix0 i t.s.wt.length):HCH prog 123 [.lp 2 0,.pp [lN [i,n]]] (HO t (cT t)) fun r H'=>r= .bool true∧H'=a117w t (stI t.s.wt i n):=by
 obtain⟨h0,h1⟩:=h
 have hk:i.toNat<t.s.wt.length:=by omega
 obtain⟨m,hm⟩:=get_of hk
 have e2:=set_map encN t.s.wt i.toNat n [.int .i64 n] rfl
 refine HCH.bodyN Tryz.func123 (by kernel_rfl) rfl (by simp[Tryz.f123]) ?_
 simp only[Tryz.f123]
 refine CV.run ?_
 repeat' first|refine sP ?_ ?_<;>intro hb<;>(try rw[hb])<;>(try simp only[bb]at hb)<;>try simp only[go_sem,encN,map_cons,map_nil,hm,hk,length_map]|refine aI ?_|with_reducible refine dw sZ07e_f123 ?_|simp only[go_sem,encN,map_cons,map_nil,hm,hk,length_map]
 refine dcAt (h117w t i hv h0 h1) rfl ?_
 repeat' first|refine sP ?_ ?_<;>intro hb<;>(try rw[hb])<;>(try simp only[bb]at hb)<;>try simp only[go_sem,encN,map_cons,map_nil,hm,hk,length_map]|refine aI ?_|with_reducible refine dw sZ07e_f123 ?_|simp only[go_sem,encN,map_cons,map_nil,hm,hk,length_map]
 exact⟨⟨[(3,.bool true)],a117w t (stI t.s.wt i n)⟩,.base (by(first|exact wk_same (by simp only[go_sem,ic,stI,e2,encN])|(refine wk_drop ?_ ?_ ?_ ?_ ?_<;>simp only[go_sem,ic,stI,e2,encN]))),rfl,rfl⟩
theorem h123n(t:Town)(i n:Int)(h: ¬ix0 i t.s.wt.length):HCH prog 123 [.lp 2 0,.pp [lN [i,n]]] (HO t (cT t)) fun r H'=>r= .bool false∧H'=HO t (cT t):=by
 refine HCH.bodyN Tryz.func123 (by kernel_rfl) rfl (by simp[Tryz.f123]) ?_
 simp only[Tryz.f123]
 refine CV.run ?_
 repeat' first|refine sP ?_ ?_<;>intro hb<;>(try rw[hb])<;>(try simp only[bb]at hb)<;>try simp only[go_sem,encN,map_cons,map_nil]|refine aI ?_|with_reducible refine dw sZ07e_f123 ?_|simp only[go_sem,encN,map_cons,map_nil]
 refine dcAt (h117w0 t i h) rfl ?_
 repeat' first|refine sP ?_ ?_<;>intro hb<;>(try rw[hb])<;>(try simp only[bb]at hb)<;>try simp only[go_sem,encN,map_cons,map_nil]|refine aI ?_|with_reducible refine dw sZ07e_f123 ?_|simp only[go_sem,encN,map_cons,map_nil]
 exact⟨⟨[(3,.bool false)],HO t (cT t)⟩,.base (by exact w0),rfl,rfl⟩
def stU(l:List W2.Mould)(i:Int):List W2.Mould:=l.modify i.toNat fun m=>⟨m.page,m.used+1,m.broke⟩
def stB(l:List W2.Mould)(i:Int):List W2.Mould:=l.modify i.toNat fun m=>⟨m.page,m.used,1⟩
def castT:Str:=[99,97,115,116]
abbrev argB(i:Int)(ws:List Str):List AV:=[.lp 2 0,.pp [lN [i]],.pp [.lst false 1 (strs ws)]]
theorem h121n(t:Town)(i:Int)(ws:List Str)(h: ¬ix0 i t.s.ms.length):HCH prog 121 (argB i ws) (HO t (cT t)) fun r H'=>r= .bool false∧H'=HO t (cT t):=by
 refine HCH.bodyN Tryz.func121 (by kernel_rfl) rfl (by simp[Tryz.f121]) ?_
 simp only[Tryz.f121]
 refine CV.run ?_
 repeat' first|refine sP ?_ ?_<;>intro hb<;>(try rw[hb])<;>(try simp only[bb]at hb)<;>try simp only[go_sem,encN,map_cons,map_nil]|refine aI ?_|with_reducible refine dw sZ07e_f121 ?_|simp only[go_sem,encN,map_cons,map_nil]
 refine dcAt (h122d0 t i h) rfl ?_
 repeat' first|refine sP ?_ ?_<;>intro hb<;>(try rw[hb])<;>(try simp only[bb]at hb)<;>try simp only[go_sem,encN,map_cons,map_nil]|refine aI ?_|with_reducible refine dw sZ07e_f121 ?_|simp only[go_sem,encN,map_cons,map_nil]
 exact⟨⟨[(4,.bool false)],HO t (cT t)⟩,.base (by exact w0),rfl,rfl⟩
theorem h121b(t:Town)(i:Int)(ws:List Str)(hv:vT t)(h:ix0 i t.s.ms.length)(m:W2.Mould)(hm:t.s.ms[i.toNat]? =some m)(hb:m.broke=1):HCH prog 121 (argB i ws) (HO t (cT t)) fun r H'=>r= .bool false∧H'=a122d t t.s.ms:=by
 obtain⟨h0,h1⟩:=h
 have hk:i.toNat<t.s.ms.length:=by omega
 refine HCH.bodyN Tryz.func121 (by kernel_rfl) rfl (by simp[Tryz.f121]) ?_
 simp only[Tryz.f121]
 refine CV.run ?_
 repeat' first|refine sP ?_ ?_<;>intro hb<;>(try rw[hb])<;>(try simp only[bb]at hb)<;>try simp only[go_sem,encN,map_cons,map_nil,hm,hk,length_map,W2.encD,hb]|refine aI ?_|with_reducible refine dw sZ07e_f121 ?_|simp only[go_sem,encN,map_cons,map_nil,hm,hk,length_map,W2.encD,hb]
 refine dcAt (h122d t i hv h0 h1) rfl ?_
 repeat' first|refine sP ?_ ?_<;>intro hb<;>(try rw[hb])<;>(try simp only[bb]at hb)<;>try simp only[go_sem,encN,map_cons,map_nil,hm,hk,length_map,W2.encD,hb]|refine aI ?_|with_reducible refine dw sZ07e_f121 ?_|simp only[go_sem,encN,map_cons,map_nil,hm,hk,length_map,W2.encD,hb]
 exact⟨⟨[(4,.bool false)],a122d t t.s.ms⟩,.base (by exact w0),rfl,rfl⟩
theorem h121u(t:Town)(i:Int)(ws:List Str)(hv:vT t)(h:ix0 i t.s.ms.length)(m:W2.Mould)(hm:t.s.ms[i.toNat]? =some m)(hb: ¬m.broke=1)(hu:within m.used 0 12)(hw:ws[0]? =some castT):HCH prog 121 (argB i ws) (HO t (cT t)) fun r H'=>r= .bool true∧H'=a122d t (stU t.s.ms i):=by
 obtain⟨h0,h1⟩:=h
 have hk:i.toNat<t.s.ms.length:=by omega
 have e:=modify_set (fun m:W2.Mould=>⟨m.page,m.used+1,m.broke⟩) hm
 have e2:=set_map W2.encD t.s.ms i.toNat ⟨m.page,m.used+1,m.broke⟩ [.int .i64 m.page,.int .i64 (m.used+1),.int .i64 m.broke] rfl
 have hi:I64 (m.used+1)=True:=eq_true (by unfold within at hu;unfold I64;omega)
 have hwl:(0:Int)<ws.length:=by have:=(List.getElem?_eq_some_iff.1 hw).1;omega
 refine HCH.bodyN Tryz.func121 (by kernel_rfl) rfl (by simp[Tryz.f121]) ?_
 simp only[Tryz.f121]
 refine CV.run ?_
 repeat' first|refine sP ?_ ?_<;>intro hb<;>(try rw[hb])<;>(try simp only[bb]at hb)<;>try simp only[go_sem,encN,map_cons,map_nil,hm,hk,length_map,W2.encD,hb,hi,hw,hwl,castT]|refine aI ?_|with_reducible refine dw sZ07e_f121 ?_|simp only[go_sem,encN,map_cons,map_nil,hm,hk,length_map,W2.encD,hb,hi,hw,hwl,castT]
 refine dcAt (h122d t i hv h0 h1) rfl ?_
 repeat' first|refine sP ?_ ?_<;>intro hb<;>(try rw[hb])<;>(try simp only[bb]at hb)<;>try simp only[go_sem,encN,map_cons,map_nil,hm,hk,length_map,W2.encD,hb,hi,hw,hwl,castT]|refine aI ?_|with_reducible refine dw sZ07e_f121 ?_|simp only[go_sem,encN,map_cons,map_nil,hm,hk,length_map,W2.encD,hb,hi,hw,hwl,castT]
 exact⟨⟨[(4,.bool true)],a122d t (stU t.s.ms i)⟩,.base (by(first|exact wk_same (by simp only[go_sem,ic,stU,e,e2,W2.encD])|(refine wk_drop ?_ ?_ ?_ ?_ ?_<;>simp only[go_sem,ic,stU,e,e2,W2.encD]))),rfl,rfl⟩
theorem h121k(t:Town)(i:Int)(ws:List Str)(hv:vT t)(h:ix0 i t.s.ms.length)(m:W2.Mould)(hm:t.s.ms[i.toNat]? =some m)(hb: ¬m.broke=1)(w0:Str)(hw:ws[0]? =some w0)(hc: ¬w0=castT):HCH prog 121 (argB i ws) (HO t (cT t)) fun r H'=>r= .bool true∧H'=a122d t (stB t.s.ms i):=by
 obtain⟨h0,h1⟩:=h
 have hk:i.toNat<t.s.ms.length:=by omega
 have e:=modify_set (fun m:W2.Mould=>⟨m.page,m.used,1⟩) hm
 have e2:=set_map W2.encD t.s.ms i.toNat ⟨m.page,m.used,1⟩ [.int .i64 m.page,.int .i64 m.used,.int .i64 1] rfl
 have hwl:(0:Int)<ws.length:=by have:=(List.getElem?_eq_some_iff.1 hw).1;omega
 have hc': ¬w0=[99,97,115,116]:=hc
 refine HCH.bodyN Tryz.func121 (by kernel_rfl) rfl (by simp[Tryz.f121]) ?_
 simp only[Tryz.f121]
 refine CV.run ?_
 repeat' first|refine sP ?_ ?_<;>intro hb<;>(try rw[hb])<;>(try simp only[bb]at hb)<;>try simp only[go_sem,encN,map_cons,map_nil,hm,hk,length_map,W2.encD,hb,hw,hwl,hc']|refine aI ?_|with_reducible refine dw sZ07e_f121 ?_|simp only[go_sem,encN,map_cons,map_nil,hm,hk,length_map,W2.encD,hb,hw,hwl,hc']
 refine dcAt (h122d t i hv h0 h1) rfl ?_
 repeat' first|refine sP ?_ ?_<;>intro hb<;>(try rw[hb])<;>(try simp only[bb]at hb)<;>try simp only[go_sem,encN,map_cons,map_nil,hm,hk,length_map,W2.encD,hb,hw,hwl,hc']|refine aI ?_|with_reducible refine dw sZ07e_f121 ?_|simp only[go_sem,encN,map_cons,map_nil,hm,hk,length_map,W2.encD,hb,hw,hwl,hc']
 exact⟨⟨[(4,.bool true)],a122d t (stB t.s.ms i)⟩,.base (by(first|exact wk_same (by simp only[go_sem,ic,stB,e,e2,W2.encD])|(refine wk_drop ?_ ?_ ?_ ?_ ?_<;>simp only[go_sem,ic,stB,e,e2,W2.encD]))),rfl,rfl⟩
end Go.Proofs.YtoadkchhimojlaaGreatDoor.OV
