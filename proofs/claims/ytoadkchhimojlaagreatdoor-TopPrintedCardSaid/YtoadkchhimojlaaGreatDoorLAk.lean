/- Contracts of functions of the given program, without a condition beyond those that each theorem states; they lead to the given statement. -/
import Derived.Test.YtoadkchhimojlaaGreatDoorLAj
import Derived.Test.YtoadkchhimojlaaGreatDoorLAi
set_option linter.unusedSectionVars false
set_option linter.unusedSimpArgs false
set_option linter.unusedVariables false
set_option maxRecDepth 100000
open List(append_assoc append_nil cons_append drop_succ_cons drop_zero length_append length_cons length_drop length_map length_nil length_range map_nil mem_of_getElem? nil_append)
open Go.Proofs.Tryz(prog)
namespace Go.Proofs.YtoadkchhimojlaaGreatDoor.OV
open Go Go.Fl
open Classical
def readsT:Str:=[114,101,97,100,115]
def atT:Str:=[97,116]
def lineT:Str:=[108,105,110,101]
def isT:Str:=[105,115]
def notT:Str:=[110,111,116]
noncomputable def restF(p:List Str)(p0:Str)(n:Int):Ln:=
 if p0=readsT then(if p.length=2 then⟨4,n,[],[],[]⟩else ln0)
 else if p0=atT then(if 2<p.length∧(wordsF (p.drop 2)).kind=2 then⟨3,n,(wordsF (p.drop 2)).word,(wordsF (p.drop 2)).text,(wordsF (p.drop 2)).nums⟩else ln0)
 else if p0=lineT then
  if p.length<4∨ ¬p.getD 2 []=isT then ln0
  else if p.length=4∧p.getD 3 []=notT then⟨6,n,[],[],[]⟩
  else if(wordsF (p.drop 3)).kind=1 then⟨5,n,(wordsF (p.drop 3)).word,(wordsF (p.drop 3)).text,(wordsF (p.drop 3)).nums⟩else ln0
 else ln0
noncomputable def readP(p:List Str):Ln:=
 if¬(wordsF p).kind=0 then wordsF p
 else if p.length<2∨ ¬isN (p.getD 1 [])then ln0 else restF p (p.getD 0 []) (nR (p.getD 1 []))
noncomputable def readF(s:Str):Ln:=readP (splitP s)
theorem na:(([97,116]:Str)=[114,101,97,100,115])=False:=eq_false (by decide)
theorem nb:(([108,105,110,101]:Str)=[114,101,97,100,115])=False:=eq_false (by decide)
theorem nc:(([108,105,110,101]:Str)=[97,116])=False:=eq_false (by decide)
set_option maxHeartbeats 4000000 in
theorem c16p(s:Str)(hls:s.length≤60)(p:List Str)(hp:splitP s=p):PC prog 16 [.str s] (.agg (cL (readP p))):=by
 have h45:=c45 s hls
 rw[hp]at h45
 have hs:shortW p:=fun w hw=>by have:=splitP_short s w (by rw[hp];exact hw);omega
 have hl:p.length≤61:=by have:=splitP_len s;rw[hp]at this;omega
 have hne:p≠[]:=by rw[←hp];exact splitP_ne s
 have h46:=c46 p hs hl hne
 generalize hx:wordsF p=x at h46
 refine pB Tryz.func16 fun hlen=>CV.run ?_
 simp only[Tryz.f16]
 simp only[go_sem,length_map,and_true,true_and]at hlen
 by_cases hk:x.kind=0
 ·by_cases h2:(p.length:Int)<2
  ·have e0:readP p=ln0:=by rw[readP,hx,if_neg (by simp[hk]),if_pos (.inl (by omega))]
   repeat' first|refine sP ?_ ?_<;>intro hb<;>(try rw[hb])<;>(try simp only[bb]at hb)<;>try simp only[go_sem,hk,h2,e0,ln0,map_nil]|refine aI ?_|with_reducible refine cq h45 ?_|with_reducible refine cq h46 ?_|simp only[go_sem,hk,h2,e0,ln0,map_nil]
  ·obtain⟨p0,hp0⟩:=get_of (show 0<p.length by omega)
   obtain⟨p1,hp1⟩:=get_of (show 1<p.length by omega)
   have g0:p.getD 0 []=p0:=by simp[List.getD,hp0]
   have g1:p.getD 1 []=p1:=by simp[List.getD,hp1]
   have hwl:(0:Int)<p.length:=by omega
   have hwl1:(1:Int)<p.length:=by omega
   have h47:=c47 p1 (hs p1 (mem_of_getElem? hp1))
   by_cases hn:isN p1
   ·have e0:readP p=restF p p0 (nR p1):=by rw[readP,hx,if_neg (by simp[hk]),g1,g0,if_neg (by rintro(q|q);omega;exact q hn)]
    rw[e0]
    by_cases a1:p0=readsT
    ·by_cases a2:p.length=2
     ·have a2':(p.length:Int)=2:=by omega
      have e1:restF p p0 (nR p1)=⟨4,nR p1,[],[],[]⟩:=by rw[restF,if_pos a1,if_pos a2]
      rw[e1]
      subst a1
      repeat' first|refine sP ?_ ?_<;>intro hb<;>(try rw[hb])<;>(try simp only[bb]at hb)<;>try simp only[go_sem,hk,h2,hn,hp0,hp1,hwl,hwl1,readsT,a2',map_nil]|refine aI ?_|with_reducible refine cq h45 ?_|with_reducible refine cq h46 ?_|with_reducible refine cq h47 ?_|simp only[go_sem,hk,h2,hn,hp0,hp1,hwl,hwl1,readsT,a2',map_nil]
     ·have a2': ¬(p.length:Int)=2:=by omega
      have e1:restF p p0 (nR p1)=ln0:=by rw[restF,if_pos a1,if_neg a2]
      rw[e1]
      subst a1
      repeat' first|refine sP ?_ ?_<;>intro hb<;>(try rw[hb])<;>(try simp only[bb]at hb)<;>try simp only[go_sem,hk,h2,hn,hp0,hp1,hwl,hwl1,readsT,a2',ln0,map_nil]|refine aI ?_|with_reducible refine cq h45 ?_|with_reducible refine cq h46 ?_|with_reducible refine cq h47 ?_|simp only[go_sem,hk,h2,hn,hp0,hp1,hwl,hwl1,readsT,a2',ln0,map_nil]
    ·by_cases b1:p0=atT
     ·have q1:restF p p0 (nR p1)=if 2<p.length∧(wordsF (p.drop 2)).kind=2 then⟨3,nR p1,(wordsF (p.drop 2)).word,(wordsF (p.drop 2)).text,(wordsF (p.drop 2)).nums⟩else ln0:=by rw[restF,if_neg a1,if_pos b1]
      rw[q1]
      by_cases b2:2<p.length
      ·have b2':(2:Int)<p.length:=by omega
       have b2n:(2:Int)≤p.length:=by omega
       have h46b:=c46 (p.drop 2) (fun w hw=>hs w (List.mem_of_mem_drop hw)) (by rw[length_drop];omega) (by intro e;have:=congrArg List.length e;rw[length_drop,length_nil]at this;omega)
       generalize hy:wordsF (p.drop 2)=y at h46b
       by_cases b3:y.kind=2
       ·rw[if_pos ⟨b2,b3⟩]
        subst b1
        repeat' first|refine sP ?_ ?_<;>intro hb<;>(try rw[hb])<;>(try simp only[bb]at hb)<;>try simp only[go_sem,hk,h2,hn,hp0,hp1,hwl,hwl1,atT,na,b2',b2n,b3,length_drop]|refine aI ?_|with_reducible refine cq h45 ?_|with_reducible refine cq h46 ?_|with_reducible refine cq h47 ?_|with_reducible refine cq h46b ?_|simp only[go_sem,hk,h2,hn,hp0,hp1,hwl,hwl1,atT,na,b2',b2n,b3,length_drop]
       ·rw[if_neg fun q=>b3 q.2]
        subst b1
        repeat' first|refine sP ?_ ?_<;>intro hb<;>(try rw[hb])<;>(try simp only[bb]at hb)<;>try simp only[go_sem,hk,h2,hn,hp0,hp1,hwl,hwl1,atT,na,b2',b2n,b3,ln0,map_nil,length_drop]|refine aI ?_|with_reducible refine cq h45 ?_|with_reducible refine cq h46 ?_|with_reducible refine cq h47 ?_|with_reducible refine cq h46b ?_|simp only[go_sem,hk,h2,hn,hp0,hp1,hwl,hwl1,atT,na,b2',b2n,b3,ln0,map_nil,length_drop]
      ·have b2': ¬(2:Int)<p.length:=by omega
       rw[if_neg fun q=>b2 q.1]
       subst b1
       repeat' first|refine sP ?_ ?_<;>intro hb<;>(try rw[hb])<;>(try simp only[bb]at hb)<;>try simp only[go_sem,hk,h2,hn,hp0,hp1,hwl,hwl1,atT,na,b2',ln0,map_nil]|refine aI ?_|with_reducible refine cq h45 ?_|with_reducible refine cq h46 ?_|with_reducible refine cq h47 ?_|simp only[go_sem,hk,h2,hn,hp0,hp1,hwl,hwl1,atT,na,b2',ln0,map_nil]
     ·by_cases d1:p0=lineT
      ·have q1:restF p p0 (nR p1)=if p.length<4∨ ¬p.getD 2 []=isT then ln0 else if p.length=4∧p.getD 3 []=notT then⟨6,nR p1,[],[],[]⟩else if(wordsF (p.drop 3)).kind=1 then⟨5,nR p1,(wordsF (p.drop 3)).word,(wordsF (p.drop 3)).text,(wordsF (p.drop 3)).nums⟩else ln0:=by rw[restF,if_neg a1,if_neg b1,if_pos d1]
       rw[q1]
       by_cases d2:p.length<4
       ·have d2':(p.length:Int)<4:=by omega
        rw[if_pos (.inl d2)]
        subst d1
        repeat' first|refine sP ?_ ?_<;>intro hb<;>(try rw[hb])<;>(try simp only[bb]at hb)<;>try simp only[go_sem,hk,h2,hn,hp0,hp1,hwl,hwl1,lineT,nb,nc,d2',ln0,map_nil]|refine aI ?_|with_reducible refine cq h45 ?_|with_reducible refine cq h46 ?_|with_reducible refine cq h47 ?_|simp only[go_sem,hk,h2,hn,hp0,hp1,hwl,hwl1,lineT,nb,nc,d2',ln0,map_nil]
       ·have d2': ¬(p.length:Int)<4:=by omega
        have hwl2:(2:Int)<p.length:=by omega
        have hwl3:(3:Int)<p.length:=by omega
        have hwl3n:(3:Int)≤p.length:=by omega
        obtain⟨p2,hp2⟩:=get_of (show 2<p.length by omega)
        obtain⟨p3,hp3⟩:=get_of (show 3<p.length by omega)
        have g2:p.getD 2 []=p2:=by simp[List.getD,hp2]
        have g3:p.getD 3 []=p3:=by simp[List.getD,hp3]
        rw[g2,g3]
        by_cases d3:p2=isT
        ·rw[if_neg (by rintro(q|q);exact d2 q;exact q d3)]
         have h46b:=c46 (p.drop 3) (fun w hw=>hs w (List.mem_of_mem_drop hw)) (by rw[length_drop];omega) (by intro e;have:=congrArg List.length e;rw[length_drop,length_nil]at this;omega)
         generalize hy:wordsF (p.drop 3)=y at h46b
         by_cases d4:p.length=4∧p3=notT
         ·rw[if_pos d4]
          obtain⟨d5,d6⟩:=d4
          have d5':(p.length:Int)=4:=by omega
          subst d1 d3 d6
          repeat' first|refine sP ?_ ?_<;>intro hb<;>(try rw[hb])<;>(try simp only[bb]at hb)<;>try simp only[go_sem,hk,h2,hn,hp0,hp1,hwl,hwl1,lineT,nb,nc,isT,notT,d2',hwl2,hwl3,hp2,hp3,d5',ln0,map_nil]|refine aI ?_|with_reducible refine cq h45 ?_|with_reducible refine cq h46 ?_|with_reducible refine cq h47 ?_|simp only[go_sem,hk,h2,hn,hp0,hp1,hwl,hwl1,lineT,nb,nc,isT,notT,d2',hwl2,hwl3,hp2,hp3,d5',ln0,map_nil]
         ·rw[if_neg d4]
          by_cases d5:p.length=4
          ·have d5':(p.length:Int)=4:=by omega
           have d6: ¬p3=notT:=fun q=>d4 ⟨d5,q⟩
           have d6': ¬p3=[110,111,116]:=d6
           by_cases d7:y.kind=1
           ·rw[if_pos d7]
            subst d1 d3
            repeat' first|refine sP ?_ ?_<;>intro hb<;>(try rw[hb])<;>(try simp only[bb]at hb)<;>try simp only[go_sem,hk,h2,hn,hp0,hp1,hwl,hwl1,lineT,nb,nc,isT,notT,d2',hwl2,hwl3,hwl3n,hp2,hp3,d5',d6',d7,ln0,map_nil,length_drop]|refine aI ?_|with_reducible refine cq h45 ?_|with_reducible refine cq h46 ?_|with_reducible refine cq h47 ?_|with_reducible refine cq h46b ?_|simp only[go_sem,hk,h2,hn,hp0,hp1,hwl,hwl1,lineT,nb,nc,isT,notT,d2',hwl2,hwl3,hwl3n,hp2,hp3,d5',d6',d7,ln0,map_nil,length_drop]
           ·rw[if_neg d7]
            subst d1 d3
            repeat' first|refine sP ?_ ?_<;>intro hb<;>(try rw[hb])<;>(try simp only[bb]at hb)<;>try simp only[go_sem,hk,h2,hn,hp0,hp1,hwl,hwl1,lineT,nb,nc,isT,notT,d2',hwl2,hwl3,hwl3n,hp2,hp3,d5',d6',d7,ln0,map_nil,length_drop]|refine aI ?_|with_reducible refine cq h45 ?_|with_reducible refine cq h46 ?_|with_reducible refine cq h47 ?_|with_reducible refine cq h46b ?_|simp only[go_sem,hk,h2,hn,hp0,hp1,hwl,hwl1,lineT,nb,nc,isT,notT,d2',hwl2,hwl3,hwl3n,hp2,hp3,d5',d6',d7,ln0,map_nil,length_drop]
          ·have d5': ¬(p.length:Int)=4:=by omega
           by_cases d7:y.kind=1
           ·rw[if_pos d7]
            subst d1 d3
            repeat' first|refine sP ?_ ?_<;>intro hb<;>(try rw[hb])<;>(try simp only[bb]at hb)<;>try simp only[go_sem,hk,h2,hn,hp0,hp1,hwl,hwl1,lineT,nb,nc,isT,notT,d2',hwl2,hwl3,hwl3n,hp2,hp3,d5',d7,ln0,map_nil,length_drop]|refine aI ?_|with_reducible refine cq h45 ?_|with_reducible refine cq h46 ?_|with_reducible refine cq h47 ?_|with_reducible refine cq h46b ?_|simp only[go_sem,hk,h2,hn,hp0,hp1,hwl,hwl1,lineT,nb,nc,isT,notT,d2',hwl2,hwl3,hwl3n,hp2,hp3,d5',d7,ln0,map_nil,length_drop]
           ·rw[if_neg d7]
            subst d1 d3
            repeat' first|refine sP ?_ ?_<;>intro hb<;>(try rw[hb])<;>(try simp only[bb]at hb)<;>try simp only[go_sem,hk,h2,hn,hp0,hp1,hwl,hwl1,lineT,nb,nc,isT,notT,d2',hwl2,hwl3,hwl3n,hp2,hp3,d5',d7,ln0,map_nil,length_drop]|refine aI ?_|with_reducible refine cq h45 ?_|with_reducible refine cq h46 ?_|with_reducible refine cq h47 ?_|with_reducible refine cq h46b ?_|simp only[go_sem,hk,h2,hn,hp0,hp1,hwl,hwl1,lineT,nb,nc,isT,notT,d2',hwl2,hwl3,hwl3n,hp2,hp3,d5',d7,ln0,map_nil,length_drop]
        ·rw[if_pos (.inr d3)]
         have d3': ¬p2=[105,115]:=d3
         subst d1
         repeat' first|refine sP ?_ ?_<;>intro hb<;>(try rw[hb])<;>(try simp only[bb]at hb)<;>try simp only[go_sem,hk,h2,hn,hp0,hp1,hwl,hwl1,lineT,nb,nc,isT,d2',hwl2,hp2,d3',ln0,map_nil]|refine aI ?_|with_reducible refine cq h45 ?_|with_reducible refine cq h46 ?_|with_reducible refine cq h47 ?_|simp only[go_sem,hk,h2,hn,hp0,hp1,hwl,hwl1,lineT,nb,nc,isT,d2',hwl2,hp2,d3',ln0,map_nil]
      ·have q1:restF p p0 (nR p1)=ln0:=by rw[restF,if_neg a1,if_neg b1,if_neg d1]
       rw[q1]
       have a1': ¬p0=[114,101,97,100,115]:=a1
       have b1': ¬p0=[97,116]:=b1
       have d1': ¬p0=[108,105,110,101]:=d1
       repeat' first|refine sP ?_ ?_<;>intro hb<;>(try rw[hb])<;>(try simp only[bb]at hb)<;>try simp only[go_sem,hk,h2,hn,hp0,hp1,hwl,hwl1,a1',b1',d1',ln0,map_nil]|refine aI ?_|with_reducible refine cq h45 ?_|with_reducible refine cq h46 ?_|with_reducible refine cq h47 ?_|simp only[go_sem,hk,h2,hn,hp0,hp1,hwl,hwl1,a1',b1',d1',ln0,map_nil]
   ·have e0:readP p=ln0:=by rw[readP,hx,if_neg (by simp[hk]),g1,if_pos (.inr hn)]
    repeat' first|refine sP ?_ ?_<;>intro hb<;>(try rw[hb])<;>(try simp only[bb]at hb)<;>try simp only[go_sem,hk,h2,hn,hp0,hp1,hwl,hwl1,e0,ln0,map_nil]|refine aI ?_|with_reducible refine cq h45 ?_|with_reducible refine cq h46 ?_|with_reducible refine cq h47 ?_|simp only[go_sem,hk,h2,hn,hp0,hp1,hwl,hwl1,e0,ln0,map_nil]
 ·have e0:readP p=x:=by rw[readP,hx,if_pos hk]
  repeat' first|refine sP ?_ ?_<;>intro hb<;>(try rw[hb])<;>(try simp only[bb]at hb)<;>try simp only[go_sem,hk,e0]|refine aI ?_|with_reducible refine cq h45 ?_|with_reducible refine cq h46 ?_|simp only[go_sem,hk,e0]
theorem c16(s:Str)(hls:s.length≤60):PC prog 16 [.str s] (.agg (cL (readF s))):=c16p s hls _ rfl
end Go.Proofs.YtoadkchhimojlaaGreatDoor.OV
namespace Go.Proofs.YtoadkchhimojlaaGreatDoor.T4
open Go Go.Fl
open Classical
def sZ09a_f133:Nat→List (Nat×Nat)
 |1=>[(0,0),(0,0),(0,0),(0,0),(0,0),(0,0)]
 |10=>[(0,0),(0,0),(0,0),(0,0),(0,0),(0,0),(0,0)]
 |11=>[(0,0),(0,0),(0,0),(0,0),(0,0),(0,0),(0,0),(0,0),(0,0),(0,0),(0,0),(0,0),(0,0)]
 |13=>[(0,0),(0,0),(0,0),(0,0),(0,0),(0,0),(0,0),(0,0)]
 |_=>[]
attribute [go_sem] sZ09a_f133
theorem runM_bd{h:House}(hk:okG h){m:Mach}(hm:m∈h.ms): ∀(l:List Int) (now bef:Int) (T:List Int),(∀b,b∈l→0≤b∧b<h.bs.length)→0≤now→now+90*l.length≤1000→(∀x,x∈T→ -1≤x∧x≤1000)→ ∀x,x∈runM h m.pace l now bef T→ -1≤x∧x≤1000
 |[],_,_,_,_,_,_,hT=>hT
 |b::l,now,bef,T,hl,h0,h1,hT=>by
  obtain⟨b1,b2⟩:=hl b (by simp)
  obtain⟨z1,z2,_⟩:=nxt_bd hk hm (now:=now) (bef:=bef) (b:=b) h0 b1 b2
  rw[runM]
  simp only[length_cons,Int.natCast_add,Int.natCast_one]at h1
  refine runM_bd hk hm l _ _ _ (fun c hc=>hl c (by simp[hc])) z1 (by omega) fun x hx=>?_
  rcases List.mem_or_eq_of_mem_set hx with q|q
  ·exact hT x q
  ·subst q;omega
theorem timF_bd{h:House}(hk:okG h): ∀(ms:List Mach) (p:List (List Int)) (T:List Int),(∀m,m∈ms→m∈h.ms)→(∀l,l∈p→l.length≤5∧ ∀b,b∈l→0≤b∧b<h.bs.length)→(∀x,x∈T→ -1≤x∧x≤1000)→ ∀x,x∈timF h ms p T→ -1≤x∧x≤1000
 |[],[],_,_,_,hT=>by simpa[timF]using hT
 |[],_::_,_,_,_,hT=>by simpa[timF]using hT
 |_::_,[],_,_,_,hT=>by simpa[timF]using hT
 |m::ms,l::p,T,hm,hp,hT=>by
  obtain⟨k1,k2,k3,k4,k5,k6,k7,k8⟩:=id hk
  have q:=(k6 m (hm m (by simp))).1
  unfold within at q
  obtain⟨p1,p2⟩:=hp l (by simp)
  rw[timF]
  exact timF_bd hk ms p _ (fun x hx=>hm x (by simp[hx])) (fun x hx=>hp x (by simp[hx])) (runM_bd hk (hm m (by simp)) l _ _ T p2 (by omega) (by omega) hT)
theorem tim_bd{h:House}(hk:okG h){p:List (List Int)}(hp:okP h p): ∀x,x∈tim h p→ -1≤x∧x≤1000:=
 timF_bd hk h.ms p t0 (fun _ h=>h) hp.2 (by simp[t0])
theorem gv_bd{T:List Int}(hT: ∀x,x∈T→ -1≤x∧x≤1048576)(i:Int): -1≤gv T i∧gv T i≤1048576:=by
 unfold gv
 cases e:T[i.toNat]? with
 |none=>simp
 |some x=>simpa using hT x (mem_of_getElem? e)
theorem rdF_bd{T:List Int}(hT: ∀x,x∈T→ -1≤x∧x≤1048576): ∀(l:List Bun) (i:Nat) (R:List Int),(∀x,x∈R→ -1≤x∧x≤1048576)→ ∀x,x∈rdF T l i R→ -1≤x∧x≤1048576
 |[],_,_,hR=>hR
 |y::l,i,R,hR=>by
  rw[rdF]
  refine rdF_bd hT l _ _ fun x hx=>?_
  rcases List.mem_or_eq_of_mem_set hx with q|q
  ·exact hR x q
  ·have h1:=gv_bd hR y.train
   have h2:=gv_bd hT i
   rw[q];unfold tb;split<;>omega
theorem rdy_bd{h:House}(hk:okG h){p:List (List Int)}(hp:okP h p): ∀x,x∈rdy h (tim h p)→ -1≤x∧x≤1048576:=
 rdF_bd (fun x hx=>by have:=tim_bd hk hp x hx;omega) _ _ _ (by simp[r0])
theorem runC_inv{σ α:Type}{st:σ→α→σ×Bool}{I:σ→Prop}(hst: ∀s a,I s→I (st s a).1): ∀(L:List α) (s:σ),I s→I (runC st s L).1
 |[],s,h=>h
 |a::L,s,h=>by
  have:=hst s a h
  simp only[runC]
  split
  ·exact runC_inv hst L _ this
  ·exact this
def stW(h:House)(k:Nat)(s:Int)(p:List (List Int)):Int×Bool:=
 (if(ltG h (rdy h (tim h p))).toNat &&& (18446744073709551615-2^k)=0 then min s (max 0 (gv (rdy h (tim h p)) k-gv h.ts k))else s,true)
def waitC(h:House)(k:Nat)(stop:Int):Int:=(runC (stW h k) 1048576 (plansG h stop)).1
def stV(h:House)(k:Nat)(w:Int)(stop:Int):Int×Bool:=(max w (waitC h k stop),true)
def waitG(h:House)(k:Nat):Int:=(runC (stV h k) 0 (casesG h)).1
theorem runC_tr{σ α:Type}{st:σ→α→σ×Bool}(hst: ∀s a,(st s a).2=true): ∀(L:List α) (s:σ),(runC st s L).2=true
 |[],s=>rfl
 |a::L,s=>by simp only[runC,hst,if_true];exact runC_tr hst L _
theorem waitC_bd(h:House)(k:Nat)(stop:Int):0≤waitC h k stop∧waitC h k stop≤1048576:=
 runC_inv (I:=fun s:Int=>0≤s∧s≤1048576) (fun s p hs=>by unfold stW;split<;>(simp only;omega)) _ _ (by omega)
theorem waitG_bd(h:House)(k:Nat):0≤waitG h k∧waitG h k≤1048576:=
 runC_inv (I:=fun s:Int=>0≤s∧s≤1048576) (fun s p hs=>by have:=waitC_bd h k p;unfold stV;simp only;omega) _ _ (by omega)
set_option maxHeartbeats 4000000 in
theorem c133k(h:House)(hk:okG h)(k:Nat)(hkt':k<h.ts.length):PC prog 133 [hG h,.int .i64 k] (if gv h.ts k+waitG h k > 99 then .tup [.int .i64 0,.int .i64 3]else .tup [.int .i64 (waitG h k),.int .i64 0]):=by
 obtain⟨k1,k2,k3,k4,k5,k6,k7,k8⟩:=id hk
 have hk4:k<4:=by omega
 have hk4':(k:Int)<4:=by omega
 have hkt:(k:Int)<h.ts.length:=by omega
 have hk0:0≤(k:Int):=by omega
 obtain⟨m,hm⟩:=get_of hkt'
 have hmb:=k7 m (mem_of_getElem? hm)
 unfold within at hmb
 have et:gv h.ts k=m:=gv_nat hm
 have b1:(1:Int)*2^k=((2^k:Nat):Int):=by simp
 have b4:2^k≤8:=by
  have:k≤3:=by omega
  exact Nat.pow_le_pow_right (n:=2) (by omega) this
 have b2:U64 ((2^k:Nat):Int)=True:=eq_true (by generalize 2^k=q at b4;unfold U64;omega)
 have hw:=waitG_bd h k
 have hi2:I64 (m+waitG h k)=True:=eq_true (by unfold I64;omega)
 have hI:within (k:Int) 0 ((h.ts.length:Int)-1):=by unfold within;omega
 have h99:=c99 h k
 rw[decide_eq_true hI]at h99
 rw[et]
 have hpu:(if m+waitG h k > 99 then AV.tup [.int .i64 0,.int .i64 3]else .tup [.int .i64 (waitG h k),.int .i64 0]).pure=true:=by split<;>rfl
 refine PC.body Tryz.func133 (by kernel_rfl) rfl (by simp[Tryz.f133]) hpu ?_
 simp only[Tryz.f133]
 intro hlen
 simp only[go_sem,length_map,and_true,true_and]at hlen
 refine CV.run ?_
 repeat' first|refine sP ?_ ?_<;>intro hb<;>(try rw[hb])<;>(try simp only[bb]at hb)<;>(try simp only[within]at hb)<;>try simp only[go_sem]|refine aI ?_|with_reducible refine dw sZ09a_f133 ?_|with_reducible refine cq h99 ?_|with_reducible refine cq (c177 h hk) ?_|with_reducible refine cq (c178 h) ?_|simp only[go_sem]
 rw[vc_range_eq]
 refine CV.rangeG rfl (Nat.zero_le _) (fun l=>?_)
 refine(c108L h hk 4 l _ _ _ _ _ (fun s:Int=>[.box 26 (cG h) false,.box 3 [.int .i64 k] false,.box 3 [.int .i64 s] false]) (fun _=> .ret) (stV h k) (fun _=>rfl) (fun _=>by(simp only[go_sem,belowH])) (by(simp only[go_sem])) (fun s n own LB hLB hown=>?_) 0).mono ?_
 ·rcases hown with rfl|⟨m0,rfl⟩
  ·refine HCY.bodyL (n:=3) hLB rfl rfl (by simp) ?_
   clear hLB
   repeat' first|refine sP ?_ ?_<;>intro hb<;>(try rw[hb])<;>(try simp only[bb]at hb)<;>(try simp only[within]at hb)<;>try simp only[go_sem,putPs,cons_append,nil_append]|refine aI ?_|with_reducible refine dw sZ09a_f133 ?_|with_reducible refine cq (c179 h n) ?_|simp only[go_sem,putPs,cons_append,nil_append]
   rw[vc_range_eq]
   refine CV.rangeG rfl (by simp) (fun l2=>?_)
   refine(c93L h hk 6 l2 n _ _ _ _ _ (fun e:Int=>[.box 26 (cG h) false,.box 3 [.int .i64 k] false,.box 3 [.int .i64 s] false,.gone,.box 3 [.int .i64 e] false]) (fun _=> .ret) (stW h k) (fun _=>rfl) (fun e p j g LB2 hLB2 hq=>?_) 1048576).mono ?_
   ·refine HCY.bodyL (n:=5) hLB2 rfl rfl (by simp) ?_
    clear hLB2
    have hbr:belowB (h.ms.length+11) (.row 24 1 ((List.range h.ms.length).map (rowE 6 p g)) false)=True:=belowB_rowE (by omega)
    have hltk: ∀c:Nat,c<11→(c<h.ms.length+11)=True:=fun c hc=>eq_true (by omega)
    have h73:=c158 h hk (rdy h (tim h p)) (rdy_len _ _)
    obtain⟨l0,l1⟩:=lt_bd hk (rdy h (tim h p))
    have u1:U64 (ltG h (rdy h (tim h p)))=True:=eq_true (by unfold U64;omega)
    have htk:List.take 4 (List.map I (rdy h (tim h p)))=List.map I (rdy h (tim h p)):=List.take_of_length_le (by simp[rdy_len])
    obtain⟨r,hr⟩:=get_of (l:=rdy h (tim h p)) (j:=k) (by rw[rdy_len];exact hk4)
    have hrb:=rdy_bd hk (hq.okP hk) r (mem_of_getElem? hr)
    have er:=gv_nat hr
    have hi1:I64 (r-m)=True:=eq_true (by unfold I64;omega)
    by_cases e0:(ltG h (rdy h (tim h p))).toNat &&& (18446744073709551615-2^k)=0
    ·have e0':(((ltG h (rdy h (tim h p))).toNat &&& (18446744073709551615-2^k):Nat):Int)=0:=by rw[e0];rfl
     have e1:stW h k e p=(min e (max 0 (r-m)),true):=by simp only[stW,e0,if_true,er,et]
     repeat' first|refine sP ?_ ?_<;>intro hb<;>(try rw[hb])<;>(try simp only[bb]at hb)<;>(try simp only[within]at hb)<;>try simp only[go_sem,putPs,cons_append,nil_append,allOne_mapI,rdy_len,length_map,length_range,tg0,tg1,ts0,ts1,htk,b1,b2,u1,e0,e0',hr,hm,hk4,hkt,hk0,hi1,getI,drop_head,Option.map_some,I,encN,Nat.mul_one,Nat.add_assoc,drop_succ_cons,drop_zero,append_assoc,append_nil]|refine aI ?_|with_reducible refine dw sZ09a_f133 ?_|with_reducible refine cq h73 ?_|simp only[go_sem,putPs,cons_append,nil_append,allOne_mapI,rdy_len,length_map,length_range,tg0,tg1,ts0,ts1,htk,b1,b2,u1,e0,e0',hr,hm,hk4,hkt,hk0,hi1,getI,drop_head,Option.map_some,I,encN,Nat.mul_one,Nat.add_assoc,drop_succ_cons,drop_zero,append_assoc,append_nil]
     refine RBL.nm ([.box 26 (cG h) false,.box 3 [.int .i64 k] false,.box 3 [.int .i64 s] false,.gone,.box 3 [.int .i64 (min e (max 0 (r-m)))] false]++ .gone::ownP 6 l2 h n p j g) (.base (by(first|exact wk_same (by simp only[go_sem,ic,pfx_app,pfx,belowH,hbr,hltk,belowB_gone,belowH_rgE,Nat.add_assoc,length_map,length_range])|(refine wk_drop ?_ ?_ ?_ ?_ ?_<;>simp only[go_sem,ic,pfx_app,pfx,belowH,hbr,hltk,belowB_gone,belowH_rgE,Nat.add_assoc,length_map,length_range])))) rfl ?_
     rw[e1];exact⟨rfl,rfl⟩
    ·have e0': ¬(((ltG h (rdy h (tim h p))).toNat &&& (18446744073709551615-2^k):Nat):Int)=0:=by omega
     have e1:stW h k e p=(e,true):=by simp only[stW,e0,if_false]
     repeat' first|refine sP ?_ ?_<;>intro hb<;>(try rw[hb])<;>(try simp only[bb]at hb)<;>(try simp only[within]at hb)<;>try simp only[go_sem,putPs,cons_append,nil_append,allOne_mapI,rdy_len,length_map,length_range,tg0,tg1,ts0,ts1,htk,b1,b2,u1,e0,e0',hk4,hk0,Nat.add_assoc,drop_succ_cons,drop_zero,append_assoc,append_nil]|refine aI ?_|with_reducible refine dw sZ09a_f133 ?_|with_reducible refine cq h73 ?_|simp only[go_sem,putPs,cons_append,nil_append,allOne_mapI,rdy_len,length_map,length_range,tg0,tg1,ts0,ts1,htk,b1,b2,u1,e0,e0',hk4,hk0,Nat.add_assoc,drop_succ_cons,drop_zero,append_assoc,append_nil]
     refine RBL.nm ([.box 26 (cG h) false,.box 3 [.int .i64 k] false,.box 3 [.int .i64 s] false,.gone,.box 3 [.int .i64 e] false]++ .gone::ownP 6 l2 h n p j g) (.base (by(first|exact wk_same (by simp only[go_sem,ic,pfx_app,pfx,belowH,hbr,hltk,belowB_gone,belowH_rgE,Nat.add_assoc,length_map,length_range])|(refine wk_drop ?_ ?_ ?_ ?_ ?_<;>simp only[go_sem,ic,pfx_app,pfx,belowH,hbr,hltk,belowB_gone,belowH_rgE,Nat.add_assoc,length_map,length_range])))) rfl ?_
     rw[e1];exact⟨rfl,rfl⟩
   ·rintro r H' ⟨rest,rfl⟩
    refine⟨_,_,rest,rfl,rfl,by(simp only[go_sem,belowH,belowB_gone]),by(simp only[go_sem]),?_⟩
    have hR:(runC (stW h k) 1048576 (plansG h n)).2=true:=runC_tr (fun _ _=>rfl) _ _
    rw[hR,if_pos rfl]
    refine .inl ⟨rfl,?_⟩
    have e2:(runC (stW h k) 1048576 (plansG h n)).1=waitC h k n:=rfl
    rw[e2]
    repeat' first|refine sP ?_ ?_<;>intro hb<;>(try rw[hb])<;>(try simp only[bb]at hb)<;>(try simp only[within]at hb)<;>try simp only[go_sem]|refine aI ?_|with_reducible refine dw sZ09a_f133 ?_|simp only[go_sem]
    refine RBL.nm [.box 26 (cG h) false,.box 3 [.int .i64 k] false,.box 3 [.int .i64 (max s (waitC h k n))] false,.gone] (.base (by(first|exact wk_same (by simp only[go_sem,ic,belowB_gone])|(refine wk_drop ?_ ?_ ?_ ?_ ?_<;>simp only[go_sem,ic,belowB_gone])))) rfl ?_
    exact⟨rfl,rfl⟩
  ·refine HCY.bodyL (n:=3) hLB rfl rfl (by simp) ?_
   clear hLB
   repeat' first|refine sP ?_ ?_<;>intro hb<;>(try rw[hb])<;>(try simp only[bb]at hb)<;>(try simp only[within]at hb)<;>try simp only[go_sem,putPs,cons_append,nil_append]|refine aI ?_|with_reducible refine dw sZ09a_f133 ?_|with_reducible refine cq (c179 h n) ?_|simp only[go_sem,putPs,cons_append,nil_append]
   rw[vc_range_eq]
   refine CV.rangeG rfl (by simp) (fun l2=>?_)
   refine(c93L h hk 7 l2 n _ _ _ _ _ (fun e:Int=>[.box 26 (cG h) false,.box 3 [.int .i64 k] false,.box 3 [.int .i64 s] false,.gone,.box 110 (encM m0) false,.box 3 [.int .i64 e] false]) (fun _=> .ret) (stW h k) (fun _=>rfl) (fun e p j g LB2 hLB2 hq=>?_) 1048576).mono ?_
   ·refine HCY.bodyL (n:=6) hLB2 rfl rfl (by simp) ?_
    clear hLB2
    have hbr:belowB (h.ms.length+12) (.row 24 1 ((List.range h.ms.length).map (rowE 7 p g)) false)=True:=belowB_rowE (by omega)
    have hltk: ∀c:Nat,c<12→(c<h.ms.length+12)=True:=fun c hc=>eq_true (by omega)
    have h73:=c158 h hk (rdy h (tim h p)) (rdy_len _ _)
    obtain⟨l0,l1⟩:=lt_bd hk (rdy h (tim h p))
    have u1:U64 (ltG h (rdy h (tim h p)))=True:=eq_true (by unfold U64;omega)
    have htk:List.take 4 (List.map I (rdy h (tim h p)))=List.map I (rdy h (tim h p)):=List.take_of_length_le (by simp[rdy_len])
    obtain⟨r,hr⟩:=get_of (l:=rdy h (tim h p)) (j:=k) (by rw[rdy_len];exact hk4)
    have hrb:=rdy_bd hk (hq.okP hk) r (mem_of_getElem? hr)
    have er:=gv_nat hr
    have hi1:I64 (r-m)=True:=eq_true (by unfold I64;omega)
    by_cases e0:(ltG h (rdy h (tim h p))).toNat &&& (18446744073709551615-2^k)=0
    ·have e0':(((ltG h (rdy h (tim h p))).toNat &&& (18446744073709551615-2^k):Nat):Int)=0:=by rw[e0];rfl
     have e1:stW h k e p=(min e (max 0 (r-m)),true):=by simp only[stW,e0,if_true,er,et]
     repeat' first|refine sP ?_ ?_<;>intro hb<;>(try rw[hb])<;>(try simp only[bb]at hb)<;>(try simp only[within]at hb)<;>try simp only[go_sem,putPs,cons_append,nil_append,allOne_mapI,rdy_len,length_map,length_range,tg0,tg1,ts0,ts1,htk,b1,b2,u1,e0,e0',hr,hm,hk4,hkt,hk0,hi1,getI,drop_head,Option.map_some,I,encN,Nat.mul_one,Nat.add_assoc,drop_succ_cons,drop_zero,append_assoc,append_nil]|refine aI ?_|with_reducible refine dw sZ09a_f133 ?_|with_reducible refine cq h73 ?_|simp only[go_sem,putPs,cons_append,nil_append,allOne_mapI,rdy_len,length_map,length_range,tg0,tg1,ts0,ts1,htk,b1,b2,u1,e0,e0',hr,hm,hk4,hkt,hk0,hi1,getI,drop_head,Option.map_some,I,encN,Nat.mul_one,Nat.add_assoc,drop_succ_cons,drop_zero,append_assoc,append_nil]
     refine RBL.nm ([.box 26 (cG h) false,.box 3 [.int .i64 k] false,.box 3 [.int .i64 s] false,.gone,.box 110 (encM m0) false,.box 3 [.int .i64 (min e (max 0 (r-m)))] false]++ .gone::ownP 7 l2 h n p j g) (.base (by(first|exact wk_same (by simp only[go_sem,ic,pfx_app,pfx,belowH,hbr,hltk,belowB_gone,belowH_rgE,Nat.add_assoc,length_map,length_range])|(refine wk_drop ?_ ?_ ?_ ?_ ?_<;>simp only[go_sem,ic,pfx_app,pfx,belowH,hbr,hltk,belowB_gone,belowH_rgE,Nat.add_assoc,length_map,length_range])))) rfl ?_
     rw[e1];exact⟨rfl,rfl⟩
    ·have e0': ¬(((ltG h (rdy h (tim h p))).toNat &&& (18446744073709551615-2^k):Nat):Int)=0:=by omega
     have e1:stW h k e p=(e,true):=by simp only[stW,e0,if_false]
     repeat' first|refine sP ?_ ?_<;>intro hb<;>(try rw[hb])<;>(try simp only[bb]at hb)<;>(try simp only[within]at hb)<;>try simp only[go_sem,putPs,cons_append,nil_append,allOne_mapI,rdy_len,length_map,length_range,tg0,tg1,ts0,ts1,htk,b1,b2,u1,e0,e0',hk4,hk0,Nat.add_assoc,drop_succ_cons,drop_zero,append_assoc,append_nil]|refine aI ?_|with_reducible refine dw sZ09a_f133 ?_|with_reducible refine cq h73 ?_|simp only[go_sem,putPs,cons_append,nil_append,allOne_mapI,rdy_len,length_map,length_range,tg0,tg1,ts0,ts1,htk,b1,b2,u1,e0,e0',hk4,hk0,Nat.add_assoc,drop_succ_cons,drop_zero,append_assoc,append_nil]
     refine RBL.nm ([.box 26 (cG h) false,.box 3 [.int .i64 k] false,.box 3 [.int .i64 s] false,.gone,.box 110 (encM m0) false,.box 3 [.int .i64 e] false]++ .gone::ownP 7 l2 h n p j g) (.base (by(first|exact wk_same (by simp only[go_sem,ic,pfx_app,pfx,belowH,hbr,hltk,belowB_gone,belowH_rgE,Nat.add_assoc,length_map,length_range])|(refine wk_drop ?_ ?_ ?_ ?_ ?_<;>simp only[go_sem,ic,pfx_app,pfx,belowH,hbr,hltk,belowB_gone,belowH_rgE,Nat.add_assoc,length_map,length_range])))) rfl ?_
     rw[e1];exact⟨rfl,rfl⟩
   ·rintro r H' ⟨rest,rfl⟩
    refine⟨_,_,rest,rfl,rfl,by(simp only[go_sem,belowH,belowB_gone]),by(simp only[go_sem]),?_⟩
    have hR:(runC (stW h k) 1048576 (plansG h n)).2=true:=runC_tr (fun _ _=>rfl) _ _
    rw[hR,if_pos rfl]
    refine .inl ⟨rfl,?_⟩
    have e2:(runC (stW h k) 1048576 (plansG h n)).1=waitC h k n:=rfl
    rw[e2]
    repeat' first|refine sP ?_ ?_<;>intro hb<;>(try rw[hb])<;>(try simp only[bb]at hb)<;>(try simp only[within]at hb)<;>try simp only[go_sem]|refine aI ?_|with_reducible refine dw sZ09a_f133 ?_|simp only[go_sem]
    refine RBL.nm [.box 26 (cG h) false,.box 3 [.int .i64 k] false,.box 3 [.int .i64 (max s (waitC h k n))] false,.gone,.box 110 (encM m0) false] (.base (by(first|exact wk_same (by simp only[go_sem,ic,belowB_gone])|(refine wk_drop ?_ ?_ ?_ ?_ ?_<;>simp only[go_sem,ic,belowB_gone])))) rfl ?_
    exact⟨rfl,rfl⟩
 ·rintro r H' ⟨rest,rfl⟩
  refine⟨_,_,rest,rfl,rfl,by(simp only[go_sem,belowH]),by(simp only[go_sem]),?_⟩
  have hR:(runC (stV h k) 0 (casesG h)).2=true:=runC_tr (fun _ _=>rfl) _ _
  rw[hR,if_pos rfl]
  refine .inl ⟨rfl,?_⟩
  have e2:(runC (stV h k) 0 (casesG h)).1=waitG h k:=rfl
  rw[e2]
  by_cases e9:99<m+waitG h k
  ·rw[if_pos e9]
   repeat' first|refine sP ?_ ?_<;>intro hb<;>(try rw[hb])<;>(try simp only[bb]at hb)<;>(try simp only[within]at hb)<;>try simp only[go_sem,hm,hkt,hk0,hi2,e9,encN]|refine aI ?_|with_reducible refine dw sZ09a_f133 ?_|simp only[go_sem,hm,hkt,hk0,hi2,e9,encN]
  ·rw[if_neg e9]
   repeat' first|refine sP ?_ ?_<;>intro hb<;>(try rw[hb])<;>(try simp only[bb]at hb)<;>(try simp only[within]at hb)<;>try simp only[go_sem,hm,hkt,hk0,hi2,e9,encN]|refine aI ?_|with_reducible refine dw sZ09a_f133 ?_|simp only[go_sem,hm,hkt,hk0,hi2,e9,encN]
theorem c177f(h:House)(hk:okG h):PC prog 177 [hG h,.bool false] (.int .i64 1):=by
 have h57:=c55 h
 rw[show checkG h=0 from checkG0▸hk]at h57
 refine pB Tryz.func177 fun hlen=>CV.run ?_
 simp only[Tryz.f177]
 simp only[go_sem,length_map,and_true,true_and]at hlen
 repeat' first|refine sP ?_ ?_<;>intro hb<;>(try rw[hb])<;>(try simp only[bb]at hb)<;>(try simp only[within]at hb)<;>try simp only[go_sem]|refine aI ?_|with_reducible refine cq h57 ?_|simp only[go_sem]
theorem c133(h:House)(hk:okG h)(n:Int): ∃v e:Int,I64 v∧PC prog 133 [hG h,.int .i64 n] (.tup [.int .i64 v,.int .i64 e]):=by
 by_cases hI:within n 0 ((h.ts.length:Int)-1)
 ·have hI':=hI
  unfold within at hI'
  obtain⟨k,rfl⟩: ∃k:Nat,n=k:=⟨n.toNat,by omega⟩
  have:=c133k h hk k (by omega)
  split at this
  ·exact⟨_,_,by unfold I64;omega,this⟩
  ·exact⟨_,_,by have:=waitG_bd h k;unfold I64;omega,this⟩
 ·refine⟨0,1,by unfold I64;omega,?_⟩
  have h99:=c99 h n
  rw[decide_eq_false hI]at h99
  refine pB Tryz.func133 fun hlen=>CV.run ?_
  simp only[Tryz.f133]
  simp only[go_sem,length_map,and_true,true_and]at hlen
  repeat' first|refine sP ?_ ?_<;>intro hb<;>(try rw[hb])<;>(try simp only[bb]at hb)<;>(try simp only[within]at hb)<;>try simp only[go_sem]|refine aI ?_|with_reducible refine dw sZ09a_f133 ?_|with_reducible refine cq h99 ?_|with_reducible refine cq (c177f h hk) ?_|simp only[go_sem]
def sZ09b_f135(_:Nat):List (Nat×Nat):=[(0,0),(0,0),(0,0),(0,0),(0,0),(0,0),(0,0),(0,0),(0,0),(0,0),(0,0),(0,0),(0,0),(0,0)]
attribute [go_sem] sZ09b_f135
theorem pfx_two{a b:Blk}: ∀{X:Heap},pfx (X++[a]) (X++[a,b])=True
 |[]=>by simp[pfx]
 |x::X=>by simp[pfx,pfx_two (X:=X)]
theorem belowH_appE{n:Nat}: ∀{A B:Heap},belowH n (A++B)=(belowH n A∧belowH n B)
 |[],B=>by simp[belowH]
 |x::A,B=>by simp[belowH,belowH_appE (A:=A),and_assoc]
def lstF(h:House)(R:List Int):List Bun→Int→Int
 |[],a=>a
 |b::l,a=>lstF h R l (min a (gv h.ts b.train-gv R b.train))
def leastG(h:House)(p:List (List Int)):Int:=lstF h (rdy h (tim h p)) h.bs 99
def stS(h:House)(s:Int)(p:List (List Int)):Int×Bool:=(max s (leastG h p),true)
def spareC(h:House)(stop:Int):Int:=(runC (stS h) (-1) (plansG h stop)).1
def stQ(h:House)(w:Int)(stop:Int):Int×Bool:=(min w (spareC h stop),true)
def spareG(h:House):Int:=(runC (stQ h) 99 (casesG h)).1
set_option maxHeartbeats 4000000 in
theorem c135s(h:House)(hk:okG h):PC prog 135 [hG h] (if spareG h<0 then .tup [.int .i64 0,.int .i64 3]else .tup [.int .i64 (spareG h),.int .i64 0]):=by
 obtain⟨k1,k2,k3,k4,k5,k6,k7,k8⟩:=id hk
 have h55:=c55 h
 rw[show checkG h=0 from checkG0▸hk]at h55
 have hpu:(if spareG h<0 then AV.tup [.int .i64 0,.int .i64 3]else .tup [.int .i64 (spareG h),.int .i64 0]).pure=true:=by split<;>rfl
 refine PC.body Tryz.func135 (by kernel_rfl) rfl (by simp[Tryz.f135]) hpu ?_
 simp only[Tryz.f135]
 intro hlen
 simp only[go_sem,length_map,and_true,true_and]at hlen
 refine CV.run ?_
 repeat' first|refine sP ?_ ?_<;>intro hb<;>(try rw[hb])<;>(try simp only[bb]at hb)<;>(try simp only[within]at hb)<;>try simp only[go_sem]|refine aI ?_|with_reducible refine dw sZ09b_f135 ?_|with_reducible refine cq h55 ?_|with_reducible refine cq (c178 h) ?_|simp only[go_sem]
 rw[vc_range_eq]
 refine CV.rangeG rfl (Nat.zero_le _) (fun l=>?_)
 refine(c108L h hk 3 l _ _ _ _ _ (fun s:Int=>[.box 26 (cG h) false,.box 3 [.int .i64 s] false]) (fun _=> .ret) (stQ h) (fun _=>rfl) (fun _=>by(simp only[go_sem,belowH])) (by(simp only[go_sem])) (fun s n own LB hLB hown=>?_) 99).mono ?_
 ·rcases hown with rfl|⟨m0,rfl⟩
  ·refine HCY.bodyL (n:=2) hLB rfl rfl (by simp) ?_
   clear hLB
   repeat' first|refine sP ?_ ?_<;>intro hb<;>(try rw[hb])<;>(try simp only[bb]at hb)<;>(try simp only[within]at hb)<;>try simp only[go_sem,putPs,cons_append,nil_append]|refine aI ?_|with_reducible refine dw sZ09b_f135 ?_|with_reducible refine cq (c179 h n) ?_|simp only[go_sem,putPs,cons_append,nil_append]
   rw[vc_range_eq]
   refine CV.rangeG rfl (by simp) (fun l2=>?_)
   refine(c93L h hk 5 l2 n _ _ _ _ _ (fun e:Int=>[.box 26 (cG h) false,.box 3 [.int .i64 s] false,.gone,.box 3 [.int .i64 e] false]) (fun _=> .ret) (stS h) (fun _=>rfl) (fun e p j g LB2 hLB2 hq=>?_) (-1)).mono ?_
   ·refine HCY.bodyL (n:=4) hLB2 rfl rfl (by simp) ?_
    clear hLB2
    have hbr:belowB (h.ms.length+10) (.row 24 1 ((List.range h.ms.length).map (rowE 5 p g)) false)=True:=belowB_rowE (by omega)
    have hltk: ∀c:Nat,c<10→(c<h.ms.length+10)=True:=fun c hc=>eq_true (by omega)
    have hrb:=rdy_bd hk (hq.okP hk)
    have hbr2:belowB (h.ms.length+11) (.row 24 1 ((List.range h.ms.length).map (rowE 5 p g)) false)=True:=belowB_rowE (by omega)
    have hltk2: ∀c:Nat,c<11→(c<h.ms.length+11)=True:=fun c hc=>eq_true (by omega)
    have hd3:decide (h.ms.length+10<h.ms.length+11)=true:=decide_eq_true (by omega)
    have hd4:(h.ms.length≤h.ms.length+1)=True:=eq_true (by omega)
    have hrl:=rdy_len h (tim h p)
    repeat' first|refine sP ?_ ?_<;>intro hb<;>(try rw[hb])<;>(try simp only[bb]at hb)<;>(try simp only[within]at hb)<;>try simp only[go_sem,length_append,length_cons,length_nil,putPs,cons_append,nil_append,allOne_mapI,rdy_len,length_map,length_range,tg0,tg1,ts0,ts1,Nat.add_assoc,drop_succ_cons,drop_zero,append_assoc,append_nil]|refine aI ?_|with_reducible refine dw sZ09b_f135 ?_|simp only[go_sem,length_append,length_cons,length_nil,putPs,cons_append,nil_append,allOne_mapI,rdy_len,length_map,length_range,tg0,tg1,ts0,ts1,Nat.add_assoc,drop_succ_cons,drop_zero,append_assoc,append_nil]
    refine vc_fx (fun i (a:Int)=>⟨[(29,.int .i64 i),(28,.int .i64 h.bs.length),(27,.lst false 3 (h.bs.map encB)),(10,.int .i64 a),(9,.lp (h.ms.length+10) 0),(7,.lp 3 0),(1,.lp 0 0)],.box 26 (cG h) false:: .box 3 [.int .i64 s] false:: .gone:: .box 3 [.int .i64 e] false:: .gone:: .box 271 [.yld l2] false:: .row 24 1 ((List.range h.ms.length).map (rowE 5 p g)) false:: .box 27 [.row 6 h.ms.length] false:: .box 3 [.int .i64 (bs (usd p) 5)] false:: .box 162 [.fn 198 (capsP 5 h n)] false::((List.range h.ms.length).map (rgE p j g)++[.box 227 ((rdy h (tim h p)).map I) false])⟩) h.bs.length (fun i a=>lstF h (rdy h (tim h p)) (h.bs.drop i) a=leastG h p) 99 (.base (wk_eq (by(simp only[go_sem,Nat.add_assoc,length_append,append_assoc,length_map,length_range])) (by(simp only[go_sem])))) rfl ?_
    intro i a hi ha
    rcases Nat.lt_or_ge i h.bs.length with hlt|hge
    ·have hlt':(i:Int)<h.bs.length:=by omega
     obtain⟨y,hy⟩:=get_of hlt
     have hyk:=(k8 y (mem_of_getElem? hy)).1
     unfold within at hyk
     obtain⟨k,hyt⟩: ∃k:Nat,y.train=k:=⟨y.train.toNat,by omega⟩
     rw[hyt]at hyk
     have hk4:k<4:=by omega
     have hk4':(k:Int)<4:=by omega
     have hkt:(k:Int)<h.ts.length:=by omega
     have hk0:0≤(k:Int):=by omega
     obtain⟨m,hm⟩:=get_of (show k<h.ts.length by omega)
     have hmb:=k7 m (mem_of_getElem? hm)
     unfold within at hmb
     obtain⟨r,hr⟩:=get_of (l:=rdy h (tim h p)) (j:=k) (by omega)
     have hrb':=hrb r (mem_of_getElem? hr)
     have hi1:I64 (m-r)=True:=eq_true (by unfold I64;omega)
     rw[drop_cons' hy,lstF,hyt,gv_nat hm,gv_nat hr]at ha
     repeat' first|refine sP ?_ ?_<;>intro hb<;>(try rw[hb])<;>(try simp only[bb]at hb)<;>(try simp only[within]at hb)<;>try simp only[go_sem,length_append,length_cons,length_nil,putPs,cons_append,nil_append,allOne_mapI,rdy_len,length_map,length_range,tg0,tg1,ts0,ts1,Nat.add_assoc,drop_succ_cons,drop_zero,append_assoc,append_nil,hlt',hy,encB,hyt,hr,hm,hk4,hk4',hkt,hk0,hi1,getI,drop_head,Option.map_some,I,encN,Nat.mul_one]|refine aI ?_|with_reducible refine dw sZ09b_f135 ?_|simp only[go_sem,length_append,length_cons,length_nil,putPs,cons_append,nil_append,allOne_mapI,rdy_len,length_map,length_range,tg0,tg1,ts0,ts1,Nat.add_assoc,drop_succ_cons,drop_zero,append_assoc,append_nil,hlt',hy,encB,hyt,hr,hm,hk4,hk4',hkt,hk0,hi1,getI,drop_head,Option.map_some,I,encN,Nat.mul_one]
     exact⟨min a (m-r),hlt,.base (by(first|exact wk_same (by simp only[go_sem,ic,pfx_app,pfx,belowH,hbr,hltk,belowB_gone,belowH_rgE,Nat.add_assoc,length_map,length_range,pfx_two,belowH_appE,hbr2,hltk2,hd3,hd4,length_append,length_cons,length_nil])|(refine wk_drop ?_ ?_ ?_ ?_ ?_<;>simp only[go_sem,ic,pfx_app,pfx,belowH,hbr,hltk,belowB_gone,belowH_rgE,Nat.add_assoc,length_map,length_range,pfx_two,belowH_appE,hbr2,hltk2,hd3,hd4,length_append,length_cons,length_nil]))),ha⟩
    ·have hge': ¬(i:Int)<h.bs.length:=by omega
     obtain rfl:i=h.bs.length:=by omega
     rw[List.drop_length]at ha
     have ha':a=leastG h p:=ha
     repeat' first|refine sP ?_ ?_<;>intro hb<;>(try rw[hb])<;>(try simp only[bb]at hb)<;>(try simp only[within]at hb)<;>try simp only[go_sem,length_append,length_cons,length_nil,putPs,cons_append,nil_append,allOne_mapI,rdy_len,length_map,length_range,tg0,tg1,ts0,ts1,Nat.add_assoc,drop_succ_cons,drop_zero,append_assoc,append_nil,hge']|refine aI ?_|with_reducible refine dw sZ09b_f135 ?_|simp only[go_sem,length_append,length_cons,length_nil,putPs,cons_append,nil_append,allOne_mapI,rdy_len,length_map,length_range,tg0,tg1,ts0,ts1,Nat.add_assoc,drop_succ_cons,drop_zero,append_assoc,append_nil,hge']
     refine RBL.nm ([.box 26 (cG h) false,.box 3 [.int .i64 s] false,.gone,.box 3 [.int .i64 (max e a)] false]++ .gone::ownP 5 l2 h n p j g) (.base (by(first|exact wk_same (by simp only[go_sem,ic,pfx_app,pfx,belowH,hbr,hltk,belowB_gone,belowH_rgE,Nat.add_assoc,length_map,length_range])|(refine wk_drop ?_ ?_ ?_ ?_ ?_<;>simp only[go_sem,ic,pfx_app,pfx,belowH,hbr,hltk,belowB_gone,belowH_rgE,Nat.add_assoc,length_map,length_range])))) rfl ?_
     rw[ha'];exact⟨rfl,rfl⟩
   ·rintro r H' ⟨rest,rfl⟩
    refine⟨_,_,rest,rfl,rfl,by(simp only[go_sem,belowH,belowB_gone]),by(simp only[go_sem]),?_⟩
    have hR:(runC (stS h) (-1) (plansG h n)).2=true:=runC_tr (fun _ _=>rfl) _ _
    rw[hR,if_pos rfl]
    refine .inl ⟨rfl,?_⟩
    have e2:(runC (stS h) (-1) (plansG h n)).1=spareC h n:=rfl
    rw[e2]
    repeat' first|refine sP ?_ ?_<;>intro hb<;>(try rw[hb])<;>(try simp only[bb]at hb)<;>(try simp only[within]at hb)<;>try simp only[go_sem]|refine aI ?_|with_reducible refine dw sZ09b_f135 ?_|simp only[go_sem]
    refine RBL.nm [.box 26 (cG h) false,.box 3 [.int .i64 (min s (spareC h n))] false,.gone] (.base (by(first|exact wk_same (by simp only[go_sem,ic,belowB_gone])|(refine wk_drop ?_ ?_ ?_ ?_ ?_<;>simp only[go_sem,ic,belowB_gone])))) rfl ?_
    exact⟨rfl,rfl⟩
  ·refine HCY.bodyL (n:=2) hLB rfl rfl (by simp) ?_
   clear hLB
   repeat' first|refine sP ?_ ?_<;>intro hb<;>(try rw[hb])<;>(try simp only[bb]at hb)<;>(try simp only[within]at hb)<;>try simp only[go_sem,putPs,cons_append,nil_append]|refine aI ?_|with_reducible refine dw sZ09b_f135 ?_|with_reducible refine cq (c179 h n) ?_|simp only[go_sem,putPs,cons_append,nil_append]
   rw[vc_range_eq]
   refine CV.rangeG rfl (by simp) (fun l2=>?_)
   refine(c93L h hk 6 l2 n _ _ _ _ _ (fun e:Int=>[.box 26 (cG h) false,.box 3 [.int .i64 s] false,.gone,.box 110 (encM m0) false,.box 3 [.int .i64 e] false]) (fun _=> .ret) (stS h) (fun _=>rfl) (fun e p j g LB2 hLB2 hq=>?_) (-1)).mono ?_
   ·refine HCY.bodyL (n:=5) hLB2 rfl rfl (by simp) ?_
    clear hLB2
    have hbr:belowB (h.ms.length+11) (.row 24 1 ((List.range h.ms.length).map (rowE 6 p g)) false)=True:=belowB_rowE (by omega)
    have hltk: ∀c:Nat,c<11→(c<h.ms.length+11)=True:=fun c hc=>eq_true (by omega)
    have hrb:=rdy_bd hk (hq.okP hk)
    have hbr2:belowB (h.ms.length+12) (.row 24 1 ((List.range h.ms.length).map (rowE 6 p g)) false)=True:=belowB_rowE (by omega)
    have hltk2: ∀c:Nat,c<12→(c<h.ms.length+12)=True:=fun c hc=>eq_true (by omega)
    have hd3:decide (h.ms.length+11<h.ms.length+12)=true:=decide_eq_true (by omega)
    have hd4:(h.ms.length≤h.ms.length+1)=True:=eq_true (by omega)
    have hrl:=rdy_len h (tim h p)
    repeat' first|refine sP ?_ ?_<;>intro hb<;>(try rw[hb])<;>(try simp only[bb]at hb)<;>(try simp only[within]at hb)<;>try simp only[go_sem,length_append,length_cons,length_nil,putPs,cons_append,nil_append,allOne_mapI,rdy_len,length_map,length_range,tg0,tg1,ts0,ts1,Nat.add_assoc,drop_succ_cons,drop_zero,append_assoc,append_nil]|refine aI ?_|with_reducible refine dw sZ09b_f135 ?_|simp only[go_sem,length_append,length_cons,length_nil,putPs,cons_append,nil_append,allOne_mapI,rdy_len,length_map,length_range,tg0,tg1,ts0,ts1,Nat.add_assoc,drop_succ_cons,drop_zero,append_assoc,append_nil]
    refine vc_fx (fun i (a:Int)=>⟨[(29,.int .i64 i),(28,.int .i64 h.bs.length),(27,.lst false 3 (h.bs.map encB)),(10,.int .i64 a),(9,.lp (h.ms.length+11) 0),(7,.lp 4 0),(1,.lp 0 0)],.box 26 (cG h) false:: .box 3 [.int .i64 s] false:: .gone:: .box 110 (encM m0) false:: .box 3 [.int .i64 e] false:: .gone:: .box 271 [.yld l2] false:: .row 24 1 ((List.range h.ms.length).map (rowE 6 p g)) false:: .box 27 [.row 7 h.ms.length] false:: .box 3 [.int .i64 (bs (usd p) 5)] false:: .box 162 [.fn 198 (capsP 6 h n)] false::((List.range h.ms.length).map (rgE p j g)++[.box 227 ((rdy h (tim h p)).map I) false])⟩) h.bs.length (fun i a=>lstF h (rdy h (tim h p)) (h.bs.drop i) a=leastG h p) 99 (.base (wk_eq (by(simp only[go_sem,Nat.add_assoc,length_append,append_assoc,length_map,length_range])) (by(simp only[go_sem])))) rfl ?_
    intro i a hi ha
    rcases Nat.lt_or_ge i h.bs.length with hlt|hge
    ·have hlt':(i:Int)<h.bs.length:=by omega
     obtain⟨y,hy⟩:=get_of hlt
     have hyk:=(k8 y (mem_of_getElem? hy)).1
     unfold within at hyk
     obtain⟨k,hyt⟩: ∃k:Nat,y.train=k:=⟨y.train.toNat,by omega⟩
     rw[hyt]at hyk
     have hk4:k<4:=by omega
     have hk4':(k:Int)<4:=by omega
     have hkt:(k:Int)<h.ts.length:=by omega
     have hk0:0≤(k:Int):=by omega
     obtain⟨m,hm⟩:=get_of (show k<h.ts.length by omega)
     have hmb:=k7 m (mem_of_getElem? hm)
     unfold within at hmb
     obtain⟨r,hr⟩:=get_of (l:=rdy h (tim h p)) (j:=k) (by omega)
     have hrb':=hrb r (mem_of_getElem? hr)
     have hi1:I64 (m-r)=True:=eq_true (by unfold I64;omega)
     rw[drop_cons' hy,lstF,hyt,gv_nat hm,gv_nat hr]at ha
     repeat' first|refine sP ?_ ?_<;>intro hb<;>(try rw[hb])<;>(try simp only[bb]at hb)<;>(try simp only[within]at hb)<;>try simp only[go_sem,length_append,length_cons,length_nil,putPs,cons_append,nil_append,allOne_mapI,rdy_len,length_map,length_range,tg0,tg1,ts0,ts1,Nat.add_assoc,drop_succ_cons,drop_zero,append_assoc,append_nil,hlt',hy,encB,hyt,hr,hm,hk4,hk4',hkt,hk0,hi1,getI,drop_head,Option.map_some,I,encN,Nat.mul_one]|refine aI ?_|with_reducible refine dw sZ09b_f135 ?_|simp only[go_sem,length_append,length_cons,length_nil,putPs,cons_append,nil_append,allOne_mapI,rdy_len,length_map,length_range,tg0,tg1,ts0,ts1,Nat.add_assoc,drop_succ_cons,drop_zero,append_assoc,append_nil,hlt',hy,encB,hyt,hr,hm,hk4,hk4',hkt,hk0,hi1,getI,drop_head,Option.map_some,I,encN,Nat.mul_one]
     exact⟨min a (m-r),hlt,.base (by(first|exact wk_same (by simp only[go_sem,ic,pfx_app,pfx,belowH,hbr,hltk,belowB_gone,belowH_rgE,Nat.add_assoc,length_map,length_range,pfx_two,belowH_appE,hbr2,hltk2,hd3,hd4,length_append,length_cons,length_nil])|(refine wk_drop ?_ ?_ ?_ ?_ ?_<;>simp only[go_sem,ic,pfx_app,pfx,belowH,hbr,hltk,belowB_gone,belowH_rgE,Nat.add_assoc,length_map,length_range,pfx_two,belowH_appE,hbr2,hltk2,hd3,hd4,length_append,length_cons,length_nil]))),ha⟩
    ·have hge': ¬(i:Int)<h.bs.length:=by omega
     obtain rfl:i=h.bs.length:=by omega
     rw[List.drop_length]at ha
     have ha':a=leastG h p:=ha
     repeat' first|refine sP ?_ ?_<;>intro hb<;>(try rw[hb])<;>(try simp only[bb]at hb)<;>(try simp only[within]at hb)<;>try simp only[go_sem,length_append,length_cons,length_nil,putPs,cons_append,nil_append,allOne_mapI,rdy_len,length_map,length_range,tg0,tg1,ts0,ts1,Nat.add_assoc,drop_succ_cons,drop_zero,append_assoc,append_nil,hge']|refine aI ?_|with_reducible refine dw sZ09b_f135 ?_|simp only[go_sem,length_append,length_cons,length_nil,putPs,cons_append,nil_append,allOne_mapI,rdy_len,length_map,length_range,tg0,tg1,ts0,ts1,Nat.add_assoc,drop_succ_cons,drop_zero,append_assoc,append_nil,hge']
     refine RBL.nm ([.box 26 (cG h) false,.box 3 [.int .i64 s] false,.gone,.box 110 (encM m0) false,.box 3 [.int .i64 (max e a)] false]++ .gone::ownP 6 l2 h n p j g) (.base (by(first|exact wk_same (by simp only[go_sem,ic,pfx_app,pfx,belowH,hbr,hltk,belowB_gone,belowH_rgE,Nat.add_assoc,length_map,length_range])|(refine wk_drop ?_ ?_ ?_ ?_ ?_<;>simp only[go_sem,ic,pfx_app,pfx,belowH,hbr,hltk,belowB_gone,belowH_rgE,Nat.add_assoc,length_map,length_range])))) rfl ?_
     rw[ha'];exact⟨rfl,rfl⟩
   ·rintro r H' ⟨rest,rfl⟩
    refine⟨_,_,rest,rfl,rfl,by(simp only[go_sem,belowH,belowB_gone]),by(simp only[go_sem]),?_⟩
    have hR:(runC (stS h) (-1) (plansG h n)).2=true:=runC_tr (fun _ _=>rfl) _ _
    rw[hR,if_pos rfl]
    refine .inl ⟨rfl,?_⟩
    have e2:(runC (stS h) (-1) (plansG h n)).1=spareC h n:=rfl
    rw[e2]
    repeat' first|refine sP ?_ ?_<;>intro hb<;>(try rw[hb])<;>(try simp only[bb]at hb)<;>(try simp only[within]at hb)<;>try simp only[go_sem]|refine aI ?_|with_reducible refine dw sZ09b_f135 ?_|simp only[go_sem]
    refine RBL.nm [.box 26 (cG h) false,.box 3 [.int .i64 (min s (spareC h n))] false,.gone,.box 110 (encM m0) false] (.base (by(first|exact wk_same (by simp only[go_sem,ic,belowB_gone])|(refine wk_drop ?_ ?_ ?_ ?_ ?_<;>simp only[go_sem,ic,belowB_gone])))) rfl ?_
    exact⟨rfl,rfl⟩
 ·rintro r H' ⟨rest,rfl⟩
  refine⟨_,_,rest,rfl,rfl,by(simp only[go_sem,belowH]),by(simp only[go_sem]),?_⟩
  have hR:(runC (stQ h) 99 (casesG h)).2=true:=runC_tr (fun _ _=>rfl) _ _
  rw[hR,if_pos rfl]
  refine .inl ⟨rfl,?_⟩
  have e2:(runC (stQ h) 99 (casesG h)).1=spareG h:=rfl
  rw[e2]
  by_cases e9:spareG h<0
  ·rw[if_pos e9]
   repeat' first|refine sP ?_ ?_<;>intro hb<;>(try rw[hb])<;>(try simp only[bb]at hb)<;>(try simp only[within]at hb)<;>try simp only[go_sem,e9]|refine aI ?_|with_reducible refine dw sZ09b_f135 ?_|simp only[go_sem,e9]
  ·rw[if_neg e9]
   repeat' first|refine sP ?_ ?_<;>intro hb<;>(try rw[hb])<;>(try simp only[bb]at hb)<;>(try simp only[within]at hb)<;>try simp only[go_sem,e9]|refine aI ?_|with_reducible refine dw sZ09b_f135 ?_|simp only[go_sem,e9]
theorem spareG_bd(h:House): -1≤spareG h∧spareG h≤99:=
 runC_inv (I:=fun s:Int=> -1≤s∧s≤99) (fun s p hs=>by
  have: -1≤spareC h p:=runC_inv (I:=fun s:Int=> -1≤s) (fun s p hs=>by unfold stS;simp only;omega) _ _ (by omega)
  unfold stQ;simp only;omega) _ _ (by omega)
theorem c135(h:House)(hk:okG h): ∃v e:Int,I64 v∧PC prog 135 [hG h] (.tup [.int .i64 v,.int .i64 e]):=by
 have:=c135s h hk
 have hb:=spareG_bd h
 split at this
 ·exact⟨_,_,by unfold I64;omega,this⟩
 ·exact⟨_,_,by unfold I64;omega,this⟩
end Go.Proofs.YtoadkchhimojlaaGreatDoor.T4
