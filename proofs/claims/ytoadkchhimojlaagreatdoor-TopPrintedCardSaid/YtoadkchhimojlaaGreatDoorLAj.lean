/- Contracts of functions of the given program, without a condition beyond those that each theorem states; they lead to the given statement. -/
import Derived.Test.YtoadkchhimojlaaGreatDoorLAi
set_option linter.unusedSectionVars false
set_option linter.unusedSimpArgs false
set_option linter.unusedVariables false
set_option maxRecDepth 100000
open List(cons_append foldl_nil getElem?_eq_getElem length_append length_cons length_map length_nil length_tail length_take map_cons map_nil mem_append mem_of_getElem? take_add_one take_length take_take take_zero)
open Go.Proofs.Tryz(prog)
namespace Go.Proofs.YtoadkchhimojlaaGreatDoor.OV
open Go Go.Fl
open Classical
def key(ws:List Str):Str:=ws.headD []++Lib.itoa ws.tail.length
def opK(k:Str):Nat:=
 if k=[109,97,99,104,105,110,101,51]then 110 else if k=[115,116,111,112,115,50]then 112 else if k=[116,114,97,105,110,49]then 114 else if k=[108,101,97,118,101,115,50]then 116 else
 if k=[98,117,110,100,108,101,51]then 118 else if k=[103,97,112,49]then 120 else if k=[99,97,115,116,49]then 121 else if k=[98,114,111,107,101,49]then 121 else if k=[119,97,110,116,50]then 123 else 0
noncomputable def opN(ws:List Str):Nat:=if allNum ws.tail then opK (key ws)else 0
theorem itoa_1{n:Nat}(h:n<10):Lib.itoa n=[UInt8.ofNat (48+n)]:=by
 have: ¬(n:Int)<0:=by omega
 rw[Lib.itoa,if_neg this,Lib.decDigits,dif_pos (by omega)];simp
theorem itoa_2{n:Nat}(h:10≤n)(h2:n<100):Lib.itoa n=[UInt8.ofNat (48+n / 10),UInt8.ofNat (48+n % 10)]:=by
 have: ¬(n:Int)<0:=by omega
 rw[Lib.itoa,if_neg this,Lib.decDigits,dif_neg (by omega),Lib.decDigits,dif_pos (by omega)];simp
theorem key_inv{w x:Str}{n:Nat}{c d:UInt8}(hn:n<100)(hc:58≤c.toNat)(h:w++Lib.itoa n=x++[c,d]):w=x++[c]∧n<10∧d=UInt8.ofNat (48+n):=by
 rcases Nat.lt_or_ge n 10 with h1|h1
 ·rw[itoa_1 h1,show x++[c,d]=(x++[c])++[d] by simp]at h
  have:=List.append_inj' h rfl
  simp only[List.cons.injEq,and_true]at this
  exact⟨this.1,h1,this.2.symm⟩
 ·rw[itoa_2 h1 hn]at h
  have:=(List.append_inj' h rfl).2
  simp only[List.cons.injEq,and_true]at this
  rw[←this.1]at hc
  have h2:(UInt8.ofNat (48+n / 10)).toNat=48+n / 10:=by
   rw[UInt8.toNat_ofNat'];omega
  omega
theorem dig{n k:Nat}(hn:n<10)(hk:k<10)(h:UInt8.ofNat (48+k)=UInt8.ofNat (48+n)):n=k:=by
 have:=congrArg UInt8.toNat h
 rw[UInt8.toNat_ofNat',UInt8.toNat_ofNat']at this
 omega
theorem key_at{ws:List Str}{x:Str}{c:UInt8}{k:Nat}(hl:ws.length≤61)(hc:58≤c.toNat)(hk:k<10)(h:key ws=x++[c,UInt8.ofNat (48+k)]):ws.headD []=x++[c]∧ws.tail.length=k:=by
 have hn:ws.tail.length<100:=by rw[length_tail];omega
 obtain⟨h1,h2,h3⟩:=key_inv hn hc h
 exact⟨h1,dig h2 hk h3⟩
theorem nums_len{ws:List Str}(h:allNum ws):(numsX ws).length=ws.length:=by simp[numsX,h,numsL]
theorem opN_num{ws:List Str}(h:opN ws≠0):allNum ws.tail:=by
 unfold opN at h
 split at h
 ·assumption
 ·exact absurd rfl h
theorem vfz{P:Program}{nt m:Nat}{R:Exit→St→Prop}{g:FuncId}{args args' a2:List AV}{dst:Option Nat}{rest:List COp}{k:List Iv}{env:Env}{H:Heap}{v:AV}(hc:PC P g a2 v)(hv:v.pure=true)(hs:safeV v=true)(hf:frzL H args a2)(h:vc P nt m R (.ops rest::k) ⟨eput env dst v,H⟩):vcP P nt m R g args args' dst rest k ⟨env,H⟩:=by
 have q:vcP P nt m R g args a2 dst rest k ⟨env,H⟩:=vcP_safe hc hv hs hf h
 unfold vcP at q ⊢;exact q
theorem on_no(t:Town)(l:Str)(g:Nat)(caps cs:List AV)(ext:Heap)(hcp:AV.pureL caps=true)(h:HCH prog g (.lp 2 0::caps) (HO t (cT t)) fun r H'=>r= .bool false∧H'=HO t cs++ext):PC prog 59 [.pp [.str l,.fn g caps],hT t] (.tup [hT t,.bool false]):=by
 refine pB Tryz.func59 fun hlen=>CV.run ?_
 simp only[Tryz.f59]
 simp only[go_sem,length_map,and_true,true_and]at hlen
 repeat' first|refine sP ?_ ?_<;>intro hb<;>(try rw[hb])<;>(try simp only[bb]at hb)<;>try simp only[go_sem,hcp]|refine aI ?_|simp only[go_sem,hcp]
 refine vcP_here h ?_
 rintro r H' ⟨rfl,rfl⟩
 repeat' first|refine sP ?_ ?_<;>intro hb<;>(try rw[hb])<;>(try simp only[bb]at hb)<;>try simp only[go_sem,hcp]|refine aI ?_|simp only[go_sem,hcp]
theorem on_ok(t:Town)(y:List AV)(l:Str)(g:Nat)(caps cs:List AV)(ext:Heap)(hcp:AV.pureL caps=true)(hyp:AV.pureL y=true)(h:HCH prog g (.lp 2 0::caps) (HO t (cT t)) fun r H'=>r= .bool true∧H'=HO t cs++ext)
  (hl:cs.length=8) (ho:cs.all AV.oneA=true) (hf: ∀c,frzL (.box 35 (cT t) false:: .box 35 c false:: .box 35 cs false::ext) cs y) (h22:PC prog 22 [.agg y] (.int .i64 0)):
  PC prog 59 [.pp [.str l,.fn g caps],hT t] (.tup [.agg y,.bool true]):=by
 have h8:(8≤cs.length)=True:=eq_true (by omega)
 have ht:cs.take 8=cs:=List.take_of_length_le (by omega)
 have hpu:(AV.tup [.agg y,.bool true]).pure=true:=by simp[AV.pure,AV.pureL,hyp]
 refine PC.body Tryz.func59 (by kernel_rfl) rfl (by simp[Tryz.f59]) hpu ?_
 simp only[Tryz.f59]
 intro hlen
 simp only[go_sem,length_map,and_true,true_and]at hlen
 refine CV.run ?_
 repeat' first|refine sP ?_ ?_<;>intro hb<;>(try rw[hb])<;>(try simp only[bb]at hb)<;>try simp only[go_sem,hcp]|refine aI ?_|simp only[go_sem,hcp]
 refine vcP_here h ?_
 rintro r H' ⟨rfl,rfl⟩
 repeat' first|refine sP ?_ ?_<;>intro hb<;>(try rw[hb])<;>(try simp only[bb]at hb)<;>try simp only[go_sem,hcp,h8,ht,hl,ho,hf,hyp]|refine aI ?_|simp only[go_sem,hcp,h8,ht,hl,ho,hf,hyp]
 refine vfz h22 rfl rfl ⟨hf _,rfl⟩ ?_
 repeat' first|refine sP ?_ ?_<;>intro hb<;>(try rw[hb])<;>(try simp only[bb]at hb)<;>try simp only[go_sem,hcp,h8,ht,hl,ho,hf,hyp]|refine aI ?_|simp only[go_sem,hcp,h8,ht,hl,ho,hf,hyp]
theorem on_bad(t:Town)(y:List AV)(l:Str)(g:Nat)(caps cs:List AV)(ext:Heap)(hcp:AV.pureL caps=true)(hyp:AV.pureL y=true)(h:HCH prog g (.lp 2 0::caps) (HO t (cT t)) fun r H'=>r= .bool true∧H'=HO t cs++ext)
  (hl:cs.length=8) (ho:cs.all AV.oneA=true) (hf: ∀c,frzL (.box 35 (cT t) false:: .box 35 c false:: .box 35 cs false::ext) cs y) (h22:PC prog 22 [.agg y] (.int .i64 120)):
  PC prog 59 [.pp [.str l,.fn g caps],hT t] (.tup [hT t,.bool false]):=by
 have h8:(8≤cs.length)=True:=eq_true (by omega)
 have ht:cs.take 8=cs:=List.take_of_length_le (by omega)
 refine pB Tryz.func59 fun hlen=>CV.run ?_
 simp only[Tryz.f59]
 simp only[go_sem,length_map,and_true,true_and]at hlen
 repeat' first|refine sP ?_ ?_<;>intro hb<;>(try rw[hb])<;>(try simp only[bb]at hb)<;>try simp only[go_sem,hcp]|refine aI ?_|simp only[go_sem,hcp]
 refine vcP_here h ?_
 rintro r H' ⟨rfl,rfl⟩
 repeat' first|refine sP ?_ ?_<;>intro hb<;>(try rw[hb])<;>(try simp only[bb]at hb)<;>try simp only[go_sem,hcp,h8,ht,hl,ho,hf,hyp]|refine aI ?_|simp only[go_sem,hcp,h8,ht,hl,ho,hf,hyp]
 refine vfz h22 rfl rfl ⟨hf _,rfl⟩ ?_
 repeat' first|refine sP ?_ ?_<;>intro hb<;>(try rw[hb])<;>(try simp only[bb]at hb)<;>try simp only[go_sem,hcp,h8,ht,hl,ho,hf,hyp]|refine aI ?_|simp only[go_sem,hcp,h8,ht,hl,ho,hf,hyp]
def Does(g:Nat)(caps:List AV)(t:Town):Option Town→Prop
 |none=> ∃cs ext,HCH prog g (.lp 2 0::caps) (HO t (cT t)) fun r H'=>r= .bool false∧H'=HO t cs++ext
 |some t'=> ∃cs ext,(HCH prog g (.lp 2 0::caps) (HO t (cT t)) fun r H'=>r= .bool true∧H'=HO t cs++ext)∧cs.length=8∧cs.all AV.oneA=true∧ ∀c,frzL (.box 35 (cT t) false:: .box 35 c false:: .box 35 cs false::ext) cs (cT t')
noncomputable def onF(o:Option Town)(t:Town):Town×Bool:=match o with
 |none=>(t,false)
 |some t'=>if vT t' then(t',true)else(t,false)
theorem c59g{g:Nat}{caps:List AV}{t:Town}{o:Option Town}(l:Str)(hcp:AV.pureL caps=true)(h:Does g caps t o):PC prog 59 [.pp [.str l,.fn g caps],hT t] (.tup [hT (onF o t).1,.bool (onF o t).2]):=by
 cases o with
 |none=>
  obtain⟨cs,ext,h⟩:=h
  exact on_no t l g caps cs ext hcp h
 |some t'=>
  obtain⟨cs,ext,h,h1,h2,h3⟩:=h
  have h22:=c22 t'
  have hy:AV.pureL (cT t')=true:=by simp[AV.pureL,AV.pure]
  unfold onF
  by_cases hv:vT t'
  ·rw[if_pos hv]at h22
   simp only[hv,if_true]
   exact on_ok t (cT t') l g caps cs ext hcp hy h h1 h2 h3 h22
  ·rw[if_neg hv]at h22
   simp only[hv,if_false]
   exact on_bad t (cT t') l g caps cs ext hcp hy h h1 h2 h3 h22
noncomputable def doF(op:Nat)(a:List Int)(cast:Bool)(t:Town):Option Town:=match op,a with
 |110,[x,y,z]=>some ⟨⟨t.h.ms++[⟨x,y,z⟩],t.h.bs,t.h.ts,t.h.ch⟩,t.s⟩
 |112,[i,n]=>if ix0 i t.h.ms.length then some ⟨⟨stM t.h.ms i n,t.h.bs,t.h.ts,t.h.ch⟩,t.s⟩else none
 |114,[x]=>some ⟨⟨t.h.ms,t.h.bs,t.h.ts++[x],t.h.ch⟩,t.s⟩
 |116,[i,n]=>if ix0 i t.h.ts.length then some ⟨⟨t.h.ms,t.h.bs,stI t.h.ts i n,t.h.ch⟩,t.s⟩else none
 |118,[x,y,z]=>some ⟨⟨t.h.ms,t.h.bs++[⟨x,y,z⟩],t.h.ts,t.h.ch⟩,t.s⟩
 |120,[x]=>some (gapT t x)
 |121,[i]=>if ix0 i t.s.ms.length∧ ¬(t.s.ms.getD i.toNat ⟨0,0,0⟩).broke=1 then some ⟨t.h,⟨if cast=true then stU t.s.ms i else stB t.s.ms i,t.s.ws,t.s.wt,t.s.fr⟩⟩else none
 |123,[i,n]=>if ix0 i t.s.wt.length then some ⟨t.h,⟨t.s.ms,t.s.ws,stI t.s.wt i n,t.s.fr⟩⟩else none
 |_,_=>none
theorem d110(t:Town)(hv:vT t)(a b c:Int):Does 110 [.pp [lN [a,b,c]]] t (doF 110 [a,b,c] false t):=
 ⟨_,[],by simpa using h110 t a b c hv,rfl,rfl,fun d=>by(simp only[go_sem])⟩
theorem d114(t:Town)(hv:vT t)(a:Int):Does 114 [.pp [lN [a]]] t (doF 114 [a] false t):=
 ⟨_,[],by simpa using h114 t a hv,rfl,rfl,fun d=>by(simp only[go_sem])⟩
theorem d118(t:Town)(hv:vT t)(a b c:Int):Does 118 [.pp [lN [a,b,c]]] t (doF 118 [a,b,c] false t):=
 ⟨_,[],by simpa using h118 t a b c hv,rfl,rfl,fun d=>by(simp only[go_sem])⟩
theorem d120(t:Town)(a:Int):Does 120 [.pp [lN [a]]] t (doF 120 [a] false t):=
 ⟨_,[],by simpa using h120 t a,rfl,rfl,fun d=>by(simp only[go_sem])⟩
theorem d112(t:Town)(hv:vT t)(i n:Int):Does 112 [.pp [lN [i,n]]] t (doF 112 [i,n] false t):=by
 unfold doF
 by_cases h:ix0 i t.h.ms.length
 ·simp only[h,if_true]
  exact⟨_,_,h112 t i n hv h,rfl,rfl,fun d=>by(simp only[go_sem,frzE_self,pureM,stM,List.length_modify,length_map])⟩
 ·simp only[h,if_false]
  exact⟨_,[],by simpa using h112n t i n h⟩
theorem d116(t:Town)(hv:vT t)(i n:Int):Does 116 [.pp [lN [i,n]]] t (doF 116 [i,n] false t):=by
 unfold doF
 by_cases h:ix0 i t.h.ts.length
 ·simp only[h,if_true]
  exact⟨_,_,h116 t i n hv h,rfl,rfl,fun d=>by(simp only[go_sem,frzE_self,pureN,stI,List.length_set,length_map])⟩
 ·simp only[h,if_false]
  exact⟨_,[],by simpa using h116n t i n h⟩
theorem d123(t:Town)(hv:vT t)(i n:Int):Does 123 [.pp [lN [i,n]]] t (doF 123 [i,n] false t):=by
 unfold doF
 by_cases h:ix0 i t.s.wt.length
 ·simp only[h,if_true]
  exact⟨_,_,h123 t i n hv h,rfl,rfl,fun d=>by(simp only[go_sem,frzE_self,pureN,stI,List.length_set,length_map])⟩
 ·simp only[h,if_false]
  exact⟨_,[],by simpa using h123n t i n h⟩
theorem d121(t:Town)(hv:vT t)(i:Int)(ws:List Str)(w0:Str)(hw:ws[0]? =some w0):Does 121 [.pp [lN [i]],.pp [.lst false 1 (strs ws)]] t (doF 121 [i] (decide (w0=castT)) t):=by
 simp only[doF]
 by_cases h:ix0 i t.s.ms.length
 ·have hk:i.toNat<t.s.ms.length:=by have:=h.1;have:=h.2;omega
  obtain⟨m,hm⟩:=get_of hk
  have hg:t.s.ms.getD i.toNat ⟨0,0,0⟩=m:=by simp[List.getD,hm]
  by_cases hb:m.broke=1
  ·rw[if_neg fun q=>q.2 (by rw[hg];exact hb)]
   exact⟨_,_,h121b t i ws hv h m hm hb⟩
  ·rw[if_pos ⟨h,by rw[hg];exact hb⟩]
   by_cases hc:w0=castT
   ·subst hc
    simp only[decide_true,if_true]
    exact⟨_,_,h121u t i ws hv h m hm hb (hv.2.2.2.2.2.2.1 m (mem_of_getElem? hm)).2.1 hw,rfl,rfl,fun d=>by(simp only[go_sem,frzE_self,W2.pureD,stU,List.length_modify,length_map])⟩
   ·simp only[hc,decide_false,Bool.false_eq_true,if_false]
    exact⟨_,_,h121k t i ws hv h m hm hb w0 hw hc,rfl,rfl,fun d=>by(simp only[go_sem,frzE_self,W2.pureD,stB,List.length_modify,length_map])⟩
 ·rw[if_neg fun q=>h q.1]
  exact⟨_,[],by simpa using h121n t i ws h⟩
noncomputable def caps(ws:List Str):List AV:=if opN ws=121 then [.pp [lN (numsX ws.tail)],.pp [.lst false 1 (strs ws)]]else [.pp [lN (numsX ws.tail)]]
def lineW(ws:List Str):Str:=Lib.join ws [32]
noncomputable def cE(ws:List Str):List AV:=[.str (lineW ws),.fn (opN ws) (caps ws)]
noncomputable def dW(ws:List Str)(t:Town):Option Town:=doF (opN ws) (numsX ws.tail) (decide (ws.headD []=castT)) t
theorem list1{l:List Int}(h:l.length=1): ∃a,l=[a]:=List.length_eq_one_iff.1 h
theorem list2{l:List Int}(h:l.length=2): ∃a b,l=[a,b]:=by
 match l,h with
 |[a,b],_=>exact⟨a,b,rfl⟩
theorem list3{l:List Int}(h:l.length=3): ∃a b c,l=[a,b,c]:=by
 match l,h with
 |[a,b,c],_=>exact⟨a,b,c,rfl⟩
theorem caps_pure(ws:List Str):AV.pureL (caps ws)=true:=by unfold caps;split<;>rfl
theorem does{ws:List Str}(hop:opN ws≠0)(hl:ws.length≤61)(t:Town)(hv:vT t):Does (opN ws) (caps ws) t (dW ws t):=by
 have hA:=opN_num hop
 have hX:(numsX ws.tail).length=ws.tail.length:=nums_len hA
 have e:opN ws=opK (key ws):=if_pos hA
 unfold dW caps
 rw[e]at hop ⊢
 generalize hk:key ws=k at hop ⊢
 unfold opK at hop ⊢
 by_cases hmachine3:k=[109,97,99,104,105,110,101,51]
 ·rw[hmachine3]at hk
  obtain⟨q1,q2⟩:=key_at (x:=[109,97,99,104,105,110]) (c:=101) (k:=3) hl (by decide) (by decide) hk
  rw[q2]at hX
  obtain⟨a,b,c,hx⟩:=list3 hX
  rw[hx]
  simp only[hmachine3]
  exact d110 t hv a b c
 simp only[hmachine3,if_false]at hop ⊢
 by_cases hstops2:k=[115,116,111,112,115,50]
 ·rw[hstops2]at hk
  obtain⟨q1,q2⟩:=key_at (x:=[115,116,111,112]) (c:=115) (k:=2) hl (by decide) (by decide) hk
  rw[q2]at hX
  obtain⟨a,b,hx⟩:=list2 hX
  rw[hx]
  simp only[hstops2]
  exact d112 t hv a b
 simp only[hstops2,if_false]at hop ⊢
 by_cases htrain1:k=[116,114,97,105,110,49]
 ·rw[htrain1]at hk
  obtain⟨q1,q2⟩:=key_at (x:=[116,114,97,105]) (c:=110) (k:=1) hl (by decide) (by decide) hk
  rw[q2]at hX
  obtain⟨a,hx⟩:=list1 hX
  rw[hx]
  simp only[htrain1]
  exact d114 t hv a
 simp only[htrain1,if_false]at hop ⊢
 by_cases hleaves2:k=[108,101,97,118,101,115,50]
 ·rw[hleaves2]at hk
  obtain⟨q1,q2⟩:=key_at (x:=[108,101,97,118,101]) (c:=115) (k:=2) hl (by decide) (by decide) hk
  rw[q2]at hX
  obtain⟨a,b,hx⟩:=list2 hX
  rw[hx]
  simp only[hleaves2]
  exact d116 t hv a b
 simp only[hleaves2,if_false]at hop ⊢
 by_cases hbundle3:k=[98,117,110,100,108,101,51]
 ·rw[hbundle3]at hk
  obtain⟨q1,q2⟩:=key_at (x:=[98,117,110,100,108]) (c:=101) (k:=3) hl (by decide) (by decide) hk
  rw[q2]at hX
  obtain⟨a,b,c,hx⟩:=list3 hX
  rw[hx]
  simp only[hbundle3]
  exact d118 t hv a b c
 simp only[hbundle3,if_false]at hop ⊢
 by_cases hgap1:k=[103,97,112,49]
 ·rw[hgap1]at hk
  obtain⟨q1,q2⟩:=key_at (x:=[103,97]) (c:=112) (k:=1) hl (by decide) (by decide) hk
  rw[q2]at hX
  obtain⟨a,hx⟩:=list1 hX
  rw[hx]
  simp only[hgap1]
  exact d120 t a
 simp only[hgap1,if_false]at hop ⊢
 by_cases hcast1:k=[99,97,115,116,49]
 ·rw[hcast1]at hk
  obtain⟨q1,q2⟩:=key_at (x:=[99,97,115]) (c:=116) (k:=1) hl (by decide) (by decide) hk
  rw[q2]at hX
  obtain⟨a,hx⟩:=list1 hX
  rw[hx]
  simp only[hcast1]
  have hw:ws[0]? =some [99,97,115,116]:=by
   cases ws with
   |nil=>simp at q1
   |cons w r=>simpa using q1
  have e2:ws.headD []=[99,97,115,116]:=q1
  rw[e2]
  exact d121 t hv a ws _ hw
 simp only[hcast1,if_false]at hop ⊢
 by_cases hbroke1:k=[98,114,111,107,101,49]
 ·rw[hbroke1]at hk
  obtain⟨q1,q2⟩:=key_at (x:=[98,114,111,107]) (c:=101) (k:=1) hl (by decide) (by decide) hk
  rw[q2]at hX
  obtain⟨a,hx⟩:=list1 hX
  rw[hx]
  simp only[hbroke1]
  have hw:ws[0]? =some [98,114,111,107,101]:=by
   cases ws with
   |nil=>simp at q1
   |cons w r=>simpa using q1
  have e2:ws.headD []=[98,114,111,107,101]:=q1
  rw[e2]
  exact d121 t hv a ws _ hw
 simp only[hbroke1,if_false]at hop ⊢
 by_cases hwant2:k=[119,97,110,116,50]
 ·rw[hwant2]at hk
  obtain⟨q1,q2⟩:=key_at (x:=[119,97,110]) (c:=116) (k:=2) hl (by decide) (by decide) hk
  rw[q2]at hX
  obtain⟨a,b,hx⟩:=list2 hX
  rw[hx]
  simp only[hwant2]
  exact d123 t hv a b
 simp only[hwant2,if_false]at hop ⊢
 exact absurd rfl hop
theorem c59{ws:List Str}(hop:opN ws≠0)(hl:ws.length≤61)(t:Town)(hv:vT t):PC prog 59 [.pp (cE ws),hT t] (.tup [hT (onF (dW ws t) t).1,.bool (onF (dW ws t) t).2]):=
 c59g _ (caps_pure ws) (does hop hl t hv)
def sZ07j_f58(_:Nat):List (Nat×Nat):=[(0,0),(0,0),(0,0),(0,0),(0,0),(0,0),(0,0)]
attribute [go_sem] sZ07j_f58
theorem join_le: ∀ws:List Str,shortW ws→(Lib.join ws [32]).length≤61*ws.length
 |[],_=>by simp[Lib.join_nil]
 |w::r,h=>by
  rw[Lib.join_cons]
  have h1:=h w (by simp)
  have h2: ∀r:List Str,shortW r→(Lib.joinTail [32] r).length≤61*r.length:=by
   intro r
   induction r with
   |nil=>intro _;simp[Lib.joinTail]
   |cons u r ih=>
    intro hr
    have a1:=hr u (by simp)
    have a2:=ih fun w hw=>hr w (by simp[hw])
    simp only[Lib.joinTail,map_cons,List.flatten_cons,length_append,length_cons,length_nil]at a2 ⊢
    omega
  have h3:=h2 r fun u hu=>h u (by simp[hu])
  simp only[length_append,length_cons]
  omega
noncomputable def eE(ws:List Str):List AV:=if opN ws=0 then [.str [],.nilF]else cE ws
noncomputable def oB(ws:List Str):Bool:=decide (opN ws≠0)
theorem eE_no{ws:List Str}(h:opN ws=0):eE ws=[.str [],.nilF]∧oB ws=false:=⟨if_pos h,by simp[oB,h]⟩
theorem eE_yes{ws:List Str}{n:Nat}(h:opN ws=n)(hn:n≠0)(h1:n≠121):eE ws=[.str (lineW ws),.fn n [.pp [lN (numsX ws.tail)]]]∧oB ws=true:=by
 subst h;exact⟨by simp[eE,cE,caps,hn,h1],by simp[oB,hn]⟩
theorem eE_121{ws:List Str}(h:opN ws=121):eE ws=[.str (lineW ws),.fn 121 [.pp [lN (numsX ws.tail)],.pp [.lst false 1 (strs ws)]]]∧oB ws=true:=⟨by simp[eE,cE,caps,h],by simp[oB,h]⟩
theorem eE_pure(ws:List Str):AV.pureL (eE ws)=true:=by
 unfold eE;split
 ·rfl
 ·simp[cE,AV.pureL,AV.pure,caps_pure]
noncomputable abbrev entV(ws:List Str):AV:= .tup [.agg (eE ws),.bool (oB ws)]
set_option maxHeartbeats 2000000 in
theorem c58(ws:List Str)(hs:shortW ws)(hl:ws.length≤61)(hne:ws≠[]):PC prog 58 [.lst false 1 (strs ws)] (entV ws):=by
 obtain⟨w0,hw⟩: ∃w,ws[0]? =some w:=by cases ws with|nil=>exact absurd rfl hne|cons w r=>exact⟨w,rfl⟩
 have hpu:(entV ws).pure=true:=by simp[AV.pure,AV.pureL,eE_pure]
 have hwl:(0:Int)<ws.length:=by have:=(List.getElem?_eq_some_iff.1 hw).1;omega
 have hw1:(1:Int)≤ws.length:=by omega
 have h63:PC prog 63 [.lst false 1 (strs (ws.drop 1))] (numsV ws.tail):=by
  rw[List.drop_one]
  exact c63 ws.tail (fun w h=>hs w (List.mem_of_mem_tail h)) (by rw[length_tail];omega)
 have hj:=join_le ws hs
 have h108:=c108 false ws [32] (by omega) (by omega)
 by_cases hA:allNum ws.tail
 ·have hX:(numsX ws.tail).length=ws.tail.length:=nums_len hA
  have ht:ws.tail.length≤61:=by rw[length_tail];omega
  have h109:=c109 ws.tail.length (by unfold I64;omega)
  have e:opN ws=opK (key ws):=if_pos hA
  have hd:ws.headD []=w0:=by cases ws with|nil=>exact absurd rfl hne|cons w r=>simpa using hw
  have hk:w0++Lib.itoa (ws.tail.length:Nat)=key ws:=by rw[key,hd]
  generalize key ws=k at hk e
  refine PC.body Tryz.func58 (by kernel_rfl) rfl (by simp[Tryz.f58]) hpu ?_
  simp only[Tryz.f58]
  intro hlen
  simp only[go_sem,length_map,and_true,true_and]at hlen
  refine CV.run ?_
  have h0:=hs w0 (mem_of_getElem? hw)
  have h2:(Lib.itoa (ws.tail.length:Nat)).length≤2:=by
   rcases Nat.lt_or_ge ws.tail.length 10 with h|h
   ·rw[itoa_1 h];simp
   ·rw[itoa_2 h (by omega)];simp
  have hadd:(((w0.length+(Lib.itoa (ws.tail.length:Nat)).length:Nat):Int)≤9223372036854775807)=True:=eq_true (by omega)
  repeat' first|refine sP ?_ ?_<;>intro hb<;>(try rw[hb])<;>(try simp only[bb]at hb)<;>try simp only[go_sem,hA,hw,hwl,hw1,hX,hk,hadd,length_map]|refine aI ?_|with_reducible refine dw sZ07j_f58 ?_|with_reducible refine cq h63 ?_|with_reducible refine cq h108 ?_|with_reducible refine cq h109 ?_|simp only[go_sem,hA,hw,hwl,hw1,hX,hk,hadd,length_map]
  ·obtain⟨e1,e2⟩:=eE_yes (ws:=ws) (n:=110) (by rw[e,hb];rfl) (by decide) (by decide)
   rw[e1,e2]
   (simp only[go_sem,lineW])
  ·obtain⟨e1,e2⟩:=eE_yes (ws:=ws) (n:=112) (by rw[e,hb];rfl) (by decide) (by decide)
   rw[e1,e2]
   (simp only[go_sem,lineW])
  ·obtain⟨e1,e2⟩:=eE_yes (ws:=ws) (n:=114) (by rw[e,hb];rfl) (by decide) (by decide)
   rw[e1,e2]
   (simp only[go_sem,lineW])
  ·obtain⟨e1,e2⟩:=eE_yes (ws:=ws) (n:=116) (by rw[e,hb];rfl) (by decide) (by decide)
   rw[e1,e2]
   (simp only[go_sem,lineW])
  ·obtain⟨e1,e2⟩:=eE_yes (ws:=ws) (n:=118) (by rw[e,hb];rfl) (by decide) (by decide)
   rw[e1,e2]
   (simp only[go_sem,lineW])
  ·obtain⟨e1,e2⟩:=eE_yes (ws:=ws) (n:=120) (by rw[e,hb];rfl) (by decide) (by decide)
   rw[e1,e2]
   (simp only[go_sem,lineW])
  ·obtain⟨e1,e2⟩:=eE_121 (ws:=ws) (by rw[e,hb];rfl)
   rw[e1,e2]
   (simp only[go_sem,lineW])
  ·obtain⟨e1,e2⟩:=eE_121 (ws:=ws) (by rw[e,hb];rfl)
   rw[e1,e2]
   (simp only[go_sem,lineW])
  ·obtain⟨e1,e2⟩:=eE_yes (ws:=ws) (n:=123) (by rw[e,hb];rfl) (by decide) (by decide)
   rw[e1,e2]
   (simp only[go_sem,lineW])
  ·obtain⟨e1,e2⟩:=eE_no (ws:=ws) (by rw[e];simp[opK, *])
   rw[e1,e2]
   (simp only[go_sem])
 ·have e:opN ws=0:=if_neg hA
  obtain⟨e1,e2⟩:=eE_no e
  refine PC.body Tryz.func58 (by kernel_rfl) rfl (by simp[Tryz.f58]) hpu ?_
  simp only[Tryz.f58]
  intro hlen
  simp only[go_sem,length_map,and_true,true_and]at hlen
  refine CV.run ?_
  repeat' first|refine sP ?_ ?_<;>intro hb<;>(try rw[hb])<;>(try simp only[bb]at hb)<;>try simp only[go_sem,hA,hw,hwl,hw1,e1,e2,length_map]|refine aI ?_|with_reducible refine dw sZ07j_f58 ?_|with_reducible refine cq h63 ?_|simp only[go_sem,hA,hw,hwl,hw1,e1,e2,length_map]
def sZ07k_f61(_:Nat):List (Nat×Nat):=[(0,0),(0,0),(0,0),(0,0),(0,0),(0,0),(0,0)]
attribute [go_sem] sZ07k_f61
def qK(k:Str):Nat:=if k=[115,117,114,101,48]then 124 else if k=[102,101,119,101,115,116,48]then 126 else if k=[116,111,108,100,48]then 129 else if k=[119,97,105,116,49]then 132 else if k=[115,112,97,114,101,48]then 134 else if k=[110,101,119,48]then 136 else if k=[119,111,114,108,100,115,48]then 138 else if k=[108,101,102,116,49]then 140 else if k=[116,101,115,116,48]then 142 else 0
noncomputable def qN(ws:List Str):Nat:=if allNum ws.tail then qK (key ws)else 0
noncomputable def qE(ws:List Str):AV:=if qN ws=0 then .nilF else .fn (qN ws) (if qN ws=132∨qN ws=140 then [.pp [lN (numsX ws.tail)]]else [])
noncomputable def qB(ws:List Str):Bool:=decide (qN ws≠0)
theorem qE_no{ws:List Str}(h:qN ws=0):qE ws= .nilF∧qB ws=false:=⟨if_pos h,by simp[qB,h]⟩
theorem qE_yes{ws:List Str}{n:Nat}(h:qN ws=n)(hn:n≠0)(h1: ¬(n=132∨n=140)):qE ws= .fn n []∧qB ws=true:=by
 subst h;exact⟨by simp only[qE,hn,h1,if_false],by simp[qB,hn]⟩
theorem qE_a{ws:List Str}{n:Nat}(h:qN ws=n)(hn:n≠0)(h1:n=132∨n=140):qE ws= .fn n [.pp [lN (numsX ws.tail)]]∧qB ws=true:=by
 subst h;exact⟨by simp only[qE,hn,h1,if_false,if_true],by simp[qB,hn]⟩
theorem qE_pure(ws:List Str):(qE ws).pure=true:=by
 unfold qE;split
 ·rfl
 ·split<;>rfl
noncomputable abbrev queV(ws:List Str):AV:= .tup [qE ws,.bool (qB ws)]
set_option maxHeartbeats 2000000 in
theorem c61(ws:List Str)(hs:shortW ws)(hl:ws.length≤61)(hne:ws≠[]):PC prog 61 [.lst false 1 (strs ws)] (queV ws):=by
 obtain⟨w0,hw⟩: ∃w,ws[0]? =some w:=by cases ws with|nil=>exact absurd rfl hne|cons w r=>exact⟨w,rfl⟩
 have hpu:(queV ws).pure=true:=by simp[AV.pure,AV.pureL,qE_pure]
 have hwl:(0:Int)<ws.length:=by have:=(List.getElem?_eq_some_iff.1 hw).1;omega
 have hw1:(1:Int)≤ws.length:=by omega
 have h63:PC prog 63 [.lst false 1 (strs (ws.drop 1))] (numsV ws.tail):=by
  rw[List.drop_one]
  exact c63 ws.tail (fun w h=>hs w (List.mem_of_mem_tail h)) (by rw[length_tail];omega)
 by_cases hA:allNum ws.tail
 ·have hX:(numsX ws.tail).length=ws.tail.length:=nums_len hA
  have ht:ws.tail.length≤61:=by rw[length_tail];omega
  have h109:=c109 ws.tail.length (by unfold I64;omega)
  have e:qN ws=qK (key ws):=if_pos hA
  have hd:ws.headD []=w0:=by cases ws with|nil=>exact absurd rfl hne|cons w r=>simpa using hw
  have hk:w0++Lib.itoa (ws.tail.length:Nat)=key ws:=by rw[key,hd]
  generalize key ws=k at hk e
  have h0:=hs w0 (mem_of_getElem? hw)
  have h2:(Lib.itoa (ws.tail.length:Nat)).length≤2:=by
   rcases Nat.lt_or_ge ws.tail.length 10 with h|h
   ·rw[itoa_1 h];simp
   ·rw[itoa_2 h (by omega)];simp
  have hadd:(((w0.length+(Lib.itoa (ws.tail.length:Nat)).length:Nat):Int)≤9223372036854775807)=True:=eq_true (by omega)
  refine PC.body Tryz.func61 (by kernel_rfl) rfl (by simp[Tryz.f61]) hpu ?_
  simp only[Tryz.f61]
  intro hlen
  simp only[go_sem,length_map,and_true,true_and]at hlen
  refine CV.run ?_
  repeat' first|refine sP ?_ ?_<;>intro hb<;>(try rw[hb])<;>(try simp only[bb]at hb)<;>try simp only[go_sem,hA,hw,hwl,hw1,hX,hk,hadd,length_map]|refine aI ?_|with_reducible refine dw sZ07k_f61 ?_|with_reducible refine cq h63 ?_|with_reducible refine cq h109 ?_|simp only[go_sem,hA,hw,hwl,hw1,hX,hk,hadd,length_map]
  ·obtain⟨e1,e2⟩:=qE_yes (ws:=ws) (n:=124) (by rw[e,hb];rfl) (by decide) (by decide)
   rw[e1,e2]
   (simp only[go_sem])
  ·obtain⟨e1,e2⟩:=qE_yes (ws:=ws) (n:=126) (by rw[e,hb];rfl) (by decide) (by decide)
   rw[e1,e2]
   (simp only[go_sem])
  ·obtain⟨e1,e2⟩:=qE_yes (ws:=ws) (n:=129) (by rw[e,hb];rfl) (by decide) (by decide)
   rw[e1,e2]
   (simp only[go_sem])
  ·obtain⟨e1,e2⟩:=qE_a (ws:=ws) (n:=132) (by rw[e,hb];rfl) (by decide) (by decide)
   rw[e1,e2]
   (simp only[go_sem])
  ·obtain⟨e1,e2⟩:=qE_yes (ws:=ws) (n:=134) (by rw[e,hb];rfl) (by decide) (by decide)
   rw[e1,e2]
   (simp only[go_sem])
  ·obtain⟨e1,e2⟩:=qE_yes (ws:=ws) (n:=136) (by rw[e,hb];rfl) (by decide) (by decide)
   rw[e1,e2]
   (simp only[go_sem])
  ·obtain⟨e1,e2⟩:=qE_yes (ws:=ws) (n:=138) (by rw[e,hb];rfl) (by decide) (by decide)
   rw[e1,e2]
   (simp only[go_sem])
  ·obtain⟨e1,e2⟩:=qE_a (ws:=ws) (n:=140) (by rw[e,hb];rfl) (by decide) (by decide)
   rw[e1,e2]
   (simp only[go_sem])
  ·obtain⟨e1,e2⟩:=qE_yes (ws:=ws) (n:=142) (by rw[e,hb];rfl) (by decide) (by decide)
   rw[e1,e2]
   (simp only[go_sem])
  ·obtain⟨e1,e2⟩:=qE_no (ws:=ws) (by rw[e];simp[qK, *])
   rw[e1,e2]
   (simp only[go_sem])
 ·have e:qN ws=0:=if_neg hA
  obtain⟨e1,e2⟩:=qE_no e
  refine PC.body Tryz.func61 (by kernel_rfl) rfl (by simp[Tryz.f61]) hpu ?_
  simp only[Tryz.f61]
  intro hlen
  simp only[go_sem,length_map,and_true,true_and]at hlen
  refine CV.run ?_
  repeat' first|refine sP ?_ ?_<;>intro hb<;>(try rw[hb])<;>(try simp only[bb]at hb)<;>try simp only[go_sem,hA,hw,hwl,hw1,e1,e2,length_map]|refine aI ?_|with_reducible refine dw sZ07k_f61 ?_|with_reducible refine cq h63 ?_|simp only[go_sem,hA,hw,hwl,hw1,e1,e2,length_map]
def okN(s:Str)(sg:Int):Prop:=1≤s.length∧s.length≤6∧ ¬(s.getD 0 0=48∧(1<s.length∨sg<0))
def valN(s:Str):Int:=s.foldl (fun n c=>n*10+((c.toNat:Int)-48)) 0
def digN(s:Str):Prop:= ∀c,c∈s→48≤c.toNat∧c.toNat≤57
def magS(w:Str):Str:=if w.getD 0 0=45 then w.drop 1 else w
def sgnS(w:Str):Int:=if w.getD 0 0=45 then-1 else 1
def isN(w:Str):Prop:=okN (magS w) (sgnS w)∧digN (magS w)
noncomputable def nR(w:Str):Int:=if isN w then sgnS w*valN (magS w)else 0
theorem valN_take{s:Str}{j:Nat}(hj:j<s.length):valN (s.take (j+1))=valN (s.take j)*10+(((s.getD j 0).toNat:Int)-48):=by
 have e:s.take (j+1)=s.take j++[s.getD j 0]:=by rw[take_add_one,getElem?_eq_getElem hj];simp[List.getD,getElem?_eq_getElem hj]
 unfold valN
 rw[e,List.foldl_append]
 rfl
theorem valN_bd(s:Str)(h:digN s): ∀j:Nat,j≤s.length→0≤valN (s.take j)∧valN (s.take j)<10^j
 |0,_=>by simp[valN]
 |j+1,hj=>by
  have ih:=valN_bd s h j (by omega)
  have hm:s.getD j 0∈s:=by simp[List.getD,getElem?_eq_getElem (show j<s.length by omega)]
  have hd:=h _ hm
  rw[valN_take (by omega),Int.pow_succ]
  omega
noncomputable abbrev nuV(w:Str):AV:= .tup [.int .i64 (nR w),.bool (decide (isN w))]
theorem u8_int(c:UInt8)(n:Nat)(hn:n<256):(((c.toNat:Int)=n)=(c=UInt8.ofNat n)):=by
 rw[eq_iff_iff]
 constructor
 ·intro h
  apply UInt8.toNat_inj.1
  rw[UInt8.toNat_ofNat'];omega
 ·rintro rfl
  rw[UInt8.toNat_ofNat'];omega
theorem nR_no{w:Str}(h: ¬isN w):AV.int .i64 0= .int .i64 (nR w)∧AV.bool false= .bool (decide (isN w)):=⟨by rw[nR,if_neg h],by rw[decide_eq_false h]⟩
theorem nR_yes{w:Str}(h:isN w):AV.int .i64 (sgnS w*valN (magS w))= .int .i64 (nR w)∧AV.bool true= .bool (decide (isN w)):=⟨by rw[nR,if_pos h],by rw[decide_eq_true h]⟩
theorem h48{s:Str}(h:(((s[0]?.getD 0).toNat:Nat):Int)=48):s.getD 0 0=48:=by
 have:=(u8_int (s[0]?.getD 0) 48 (by decide)).mp (by exact_mod_cast h)
 simpa[List.getD]using this
theorem n48{s:Str}(h:s.getD 0 0=48):(((s[0]?.getD 0).toNat:Nat):Int)=48:=by
 have:s[0]?.getD 0=48:=by simpa[List.getD]using h
 rw[this];rfl
theorem c47(w:Str)(hl:w.length≤60):PC prog 47 [.str w] (nuV w):=by
 refine pB Tryz.func47 fun hlen=>CV.run ?_
 simp only[Tryz.f47]
 simp only[go_sem,length_map,and_true,true_and]at hlen
 have hu:(45:UInt8).toNat=45:=rfl
 by_cases hm:w.getD 0 0=45
 ·have hw:(0:Int)<w.length:=by
   cases w with
   |nil=>simp at hm
   |cons c r=>simp
  have hw1:(1:Int)≤w.length:=by omega
  have hm':w[0]?.getD 0=45:=by simpa[List.getD]using hm
  have e0:w.drop 1=magS w:=by rw[magS,if_pos hm]
  have hsg:sgnS w= -1:=by rw[sgnS,if_pos hm]
  generalize hms:magS w=s at e0
  have no: ∀q: ¬okN s (-1),¬ isN w:=fun q h=>q (by rw[←hms,← hsg];exact h.1)
  repeat' first|refine sP ?_ ?_<;>intro hb<;>(try rw[hb])<;>(try simp only[bb]at hb)<;>try simp only[go_sem,hw,hw1,hm',hu,e0]|refine aI ?_|simp only[go_sem,hw,hw1,hm',hu,e0]
  ·exact nR_no (no fun q=>by have:=q.1;omega)
  ·exact nR_no (no fun q=>by have:=q.2.1;omega)
  ·exact nR_no (no fun q=>q.2.2 ⟨h48 (by assumption),.inl (by omega)⟩)
  ·exact nR_no (no fun q=>q.2.2 ⟨h48 (by assumption),.inr (by omega)⟩)
  ·have hok:okN s (-1):=⟨by omega,by omega,fun q=>hb (n48 q.1)⟩
   obtain⟨sg,hd⟩: ∃sg,sg=(-1:Int):=⟨_,rfl⟩
   have hsg2:sg=1∨sg= -1:= .inr hd
   have hno: ¬(okN s (-1)∧digN s)→AV.int .i64 0= .int .i64 (nR w)∧AV.bool false= .bool (decide (isN w)):=fun q=>nR_no fun h=>q (by unfold isN at h;rwa[hms,hsg]at h)
   have hyes:digN s→AV.int .i64 (sg*valN s)= .int .i64 (nR w)∧AV.bool true= .bool (decide (isN w)):=fun q=>by
    have:=nR_yes (w:=w) (by unfold isN;rw[hms,hsg];exact⟨hok,q⟩)
    rwa[hms,hsg,← hd]at this
   refine vc_for (fun j=>⟨[(7,.int .i64 j),(6,.int .i64 (valN (s.take j))),(5,.int .i64 sg),(4,.str s),(3,.bool false),(2,.int .i64 0)],[]⟩) s.length (fun j=>digN (s.take j)) (by(first|exact wk_same (by simp only[go_sem,ic,take_zero,valN,foldl_nil,hd])|(refine wk_drop ?_ ?_ ?_ ?_ ?_<;>simp only[go_sem,ic,take_zero,valN,foldl_nil,hd]))) (fun c h=>by simp at h) ?_
   intro j hj hx
   rcases Nat.lt_or_ge j s.length with hlt|hge
   ·have hlt':(j:Int)<s.length:=by omega
    have hc:s[j]?.getD 0=s.getD j 0:=by simp[List.getD]
    have hm:s.getD j 0∈s:=by simp[List.getD,getElem?_eq_getElem hlt]
    have e:=valN_take hlt
    have hb0:0≤valN (s.take j)∧valN (s.take j)<10^j:=by
     have:=valN_bd (s.take j) hx j (by rw[length_take];omega)
     rwa[take_take,Nat.min_self]at this
    have hp:(10:Int)^j≤10^5:=by
     have:j≤5:=by omega
     exact_mod_cast Nat.pow_le_pow_right (by decide) this
    generalize s.getD j 0=c at hc hm e
    by_cases h1:(c.toNat:Int)<48
    ·repeat' first|refine sP ?_ ?_<;>intro hb<;>(try rw[hb])<;>(try simp only[bb]at hb)<;>try simp only[go_sem,hlt',hc,h1]|refine aI ?_|simp only[go_sem,hlt',hc,h1]
     exact hno fun q=>by have:=q.2 c hm;omega
    ·by_cases h2:57<(c.toNat:Int)
     ·repeat' first|refine sP ?_ ?_<;>intro hb<;>(try rw[hb])<;>(try simp only[bb]at hb)<;>try simp only[go_sem,hlt',hc,h1,h2]|refine aI ?_|simp only[go_sem,hlt',hc,h1,h2]
      exact hno fun q=>by have:=q.2 c hm;omega
     ·have i1:I64 (valN (s.take j)*10)=True:=eq_true (by unfold I64;omega)
      have i2:I64 ((c.toNat:Int)-48)=True:=eq_true (by unfold I64;omega)
      have i3:I64 (valN (s.take j)*10+((c.toNat:Int)-48))=True:=eq_true (by unfold I64;omega)
      have i4:(0≤(c.toNat:Int)-48)=True:=eq_true (by omega)
      have i5:((c.toNat:Int)-48<256)=True:=eq_true (by omega)
      repeat' first|refine sP ?_ ?_<;>intro hb<;>(try rw[hb])<;>(try simp only[bb]at hb)<;>try simp only[go_sem,hlt',hc,h1,h2,i1,i2,i3,i4,i5]|refine aI ?_|simp only[go_sem,hlt',hc,h1,h2,i1,i2,i3,i4,i5]
      refine⟨by(first|exact wk_same (by simp only[go_sem,ic,e])|(refine wk_drop ?_ ?_ ?_ ?_ ?_<;>simp only[go_sem,ic,e])),fun d hdm=>?_⟩
      rw[take_add_one,getElem?_eq_getElem hlt]at hdm
      simp only[Option.toList_some,mem_append,List.mem_singleton]at hdm
      rcases hdm with hdm|rfl
      ·exact hx d hdm
      ·have:s[j]=c:=by rw[←hc,getElem?_eq_getElem hlt];rfl
       rw[this];omega
   ·have hge': ¬(j:Int)<s.length:=by omega
    obtain rfl:j=s.length:=by omega
    rw[take_length]at hx
    have hb0:=valN_bd s hx s.length (Nat.le_refl _)
    rw[take_length]at hb0
    have hp:(10:Int)^s.length≤10^6:=by
     have:s.length≤6:=hok.2.1
     exact_mod_cast Nat.pow_le_pow_right (by decide) this
    have i6:I64 (sg*valN s)=True:=eq_true (by rcases hsg2 with e|e<;>(rw[e];unfold I64;omega))
    repeat' first|refine sP ?_ ?_<;>intro hb<;>(try rw[hb])<;>(try simp only[bb]at hb)<;>try simp only[go_sem,hge',take_length,i6]|refine aI ?_|simp only[go_sem,hge',take_length,i6]
    exact hyes hx
 ·have e0:magS w=w:=by rw[magS,if_neg hm]
  have hsg:sgnS w=1:=by rw[sgnS,if_neg hm]
  have hm': ¬(((w[0]?.getD 0).toNat:Nat):Int)=45:=fun q=>hm (by simpa[List.getD]using (u8_int _ 45 (by decide)).mp (by exact_mod_cast q))
  obtain⟨s,rfl⟩: ∃s,s=w:=⟨w,rfl⟩
  have hno: ¬(okN s 1∧digN s)→AV.int .i64 0= .int .i64 (nR s)∧AV.bool false= .bool (decide (isN s)):=fun q=>nR_no fun h=>q (by unfold isN at h;rwa[e0,hsg]at h)
  by_cases hw:(0:Int)<s.length
  ·have fin:okN s 1→ ∀sg:Int,sg=1→digN s→AV.int .i64 (sg*valN s)= .int .i64 (nR s)∧AV.bool true= .bool (decide (isN s)):=fun hok sg hd q=>by
    have:=nR_yes (w:=s) (by unfold isN;rw[e0,hsg];exact⟨hok,q⟩)
    rwa[e0,hsg,← hd]at this
   repeat' first|refine sP ?_ ?_<;>intro hb<;>(try rw[hb])<;>(try simp only[bb]at hb)<;>try simp only[go_sem,hw,hm']|refine aI ?_|simp only[go_sem,hw,hm']
   ·exfalso;omega
   ·exact hno fun q=>by have:=q.1.2.1;omega
   ·exact hno fun q=>q.1.2.2 ⟨h48 (by assumption),.inl (by omega)⟩
   ·have hok:okN s 1:=⟨by omega,by omega,fun q=>by rcases q.2 with q|q<;>omega⟩
    obtain⟨sg,hd⟩: ∃sg,sg=(1:Int):=⟨_,rfl⟩
    have hsg2:sg=1∨sg= -1:= .inl hd
    have hyes:=fin hok sg hd
    refine vc_for (fun j=>⟨[(7,.int .i64 j),(6,.int .i64 (valN (s.take j))),(5,.int .i64 sg),(4,.str s),(3,.bool false),(2,.int .i64 0)],[]⟩) s.length (fun j=>digN (s.take j)) (by(first|exact wk_same (by simp only[go_sem,ic,take_zero,valN,foldl_nil,hd])|(refine wk_drop ?_ ?_ ?_ ?_ ?_<;>simp only[go_sem,ic,take_zero,valN,foldl_nil,hd]))) (fun c h=>by simp at h) ?_
    intro j hj hx
    rcases Nat.lt_or_ge j s.length with hlt|hge
    ·have hlt':(j:Int)<s.length:=by omega
     have hc:s[j]?.getD 0=s.getD j 0:=by simp[List.getD]
     have hm:s.getD j 0∈s:=by simp[List.getD,getElem?_eq_getElem hlt]
     have e:=valN_take hlt
     have hb0:0≤valN (s.take j)∧valN (s.take j)<10^j:=by
      have:=valN_bd (s.take j) hx j (by rw[length_take];omega)
      rwa[take_take,Nat.min_self]at this
     have hp:(10:Int)^j≤10^5:=by
      have:j≤5:=by omega
      exact_mod_cast Nat.pow_le_pow_right (by decide) this
     generalize s.getD j 0=c at hc hm e
     by_cases h1:(c.toNat:Int)<48
     ·repeat' first|refine sP ?_ ?_<;>intro hb<;>(try rw[hb])<;>(try simp only[bb]at hb)<;>try simp only[go_sem,hlt',hc,h1]|refine aI ?_|simp only[go_sem,hlt',hc,h1]
      exact hno fun q=>by have:=q.2 c hm;omega
     ·by_cases h2:57<(c.toNat:Int)
      ·repeat' first|refine sP ?_ ?_<;>intro hb<;>(try rw[hb])<;>(try simp only[bb]at hb)<;>try simp only[go_sem,hlt',hc,h1,h2]|refine aI ?_|simp only[go_sem,hlt',hc,h1,h2]
       exact hno fun q=>by have:=q.2 c hm;omega
      ·have i1:I64 (valN (s.take j)*10)=True:=eq_true (by unfold I64;omega)
       have i2:I64 ((c.toNat:Int)-48)=True:=eq_true (by unfold I64;omega)
       have i3:I64 (valN (s.take j)*10+((c.toNat:Int)-48))=True:=eq_true (by unfold I64;omega)
       have i4:(0≤(c.toNat:Int)-48)=True:=eq_true (by omega)
       have i5:((c.toNat:Int)-48<256)=True:=eq_true (by omega)
       repeat' first|refine sP ?_ ?_<;>intro hb<;>(try rw[hb])<;>(try simp only[bb]at hb)<;>try simp only[go_sem,hlt',hc,h1,h2,i1,i2,i3,i4,i5]|refine aI ?_|simp only[go_sem,hlt',hc,h1,h2,i1,i2,i3,i4,i5]
       refine⟨by(first|exact wk_same (by simp only[go_sem,ic,e])|(refine wk_drop ?_ ?_ ?_ ?_ ?_<;>simp only[go_sem,ic,e])),fun d hdm=>?_⟩
       rw[take_add_one,getElem?_eq_getElem hlt]at hdm
       simp only[Option.toList_some,mem_append,List.mem_singleton]at hdm
       rcases hdm with hdm|rfl
       ·exact hx d hdm
       ·have:s[j]=c:=by rw[←hc,getElem?_eq_getElem hlt];rfl
        rw[this];omega
    ·have hge': ¬(j:Int)<s.length:=by omega
     obtain rfl:j=s.length:=by omega
     rw[take_length]at hx
     have hb0:=valN_bd s hx s.length (Nat.le_refl _)
     rw[take_length]at hb0
     have hp:(10:Int)^s.length≤10^6:=by
      have:s.length≤6:=hok.2.1
      exact_mod_cast Nat.pow_le_pow_right (by decide) this
     have i6:I64 (sg*valN s)=True:=eq_true (by rcases hsg2 with e|e<;>(rw[e];unfold I64;omega))
     repeat' first|refine sP ?_ ?_<;>intro hb<;>(try rw[hb])<;>(try simp only[bb]at hb)<;>try simp only[go_sem,hge',take_length,i6]|refine aI ?_|simp only[go_sem,hge',take_length,i6]
     exact hyes hx
   ·have hok:okN s 1:=⟨by omega,by omega,fun q=>hb (n48 q.1)⟩
    obtain⟨sg,hd⟩: ∃sg,sg=(1:Int):=⟨_,rfl⟩
    have hsg2:sg=1∨sg= -1:= .inl hd
    have hyes:=fin hok sg hd
    refine vc_for (fun j=>⟨[(7,.int .i64 j),(6,.int .i64 (valN (s.take j))),(5,.int .i64 sg),(4,.str s),(3,.bool false),(2,.int .i64 0)],[]⟩) s.length (fun j=>digN (s.take j)) (by(first|exact wk_same (by simp only[go_sem,ic,take_zero,valN,foldl_nil,hd])|(refine wk_drop ?_ ?_ ?_ ?_ ?_<;>simp only[go_sem,ic,take_zero,valN,foldl_nil,hd]))) (fun c h=>by simp at h) ?_
    intro j hj hx
    rcases Nat.lt_or_ge j s.length with hlt|hge
    ·have hlt':(j:Int)<s.length:=by omega
     have hc:s[j]?.getD 0=s.getD j 0:=by simp[List.getD]
     have hm:s.getD j 0∈s:=by simp[List.getD,getElem?_eq_getElem hlt]
     have e:=valN_take hlt
     have hb0:0≤valN (s.take j)∧valN (s.take j)<10^j:=by
      have:=valN_bd (s.take j) hx j (by rw[length_take];omega)
      rwa[take_take,Nat.min_self]at this
     have hp:(10:Int)^j≤10^5:=by
      have:j≤5:=by omega
      exact_mod_cast Nat.pow_le_pow_right (by decide) this
     generalize s.getD j 0=c at hc hm e
     by_cases h1:(c.toNat:Int)<48
     ·repeat' first|refine sP ?_ ?_<;>intro hb<;>(try rw[hb])<;>(try simp only[bb]at hb)<;>try simp only[go_sem,hlt',hc,h1]|refine aI ?_|simp only[go_sem,hlt',hc,h1]
      exact hno fun q=>by have:=q.2 c hm;omega
     ·by_cases h2:57<(c.toNat:Int)
      ·repeat' first|refine sP ?_ ?_<;>intro hb<;>(try rw[hb])<;>(try simp only[bb]at hb)<;>try simp only[go_sem,hlt',hc,h1,h2]|refine aI ?_|simp only[go_sem,hlt',hc,h1,h2]
       exact hno fun q=>by have:=q.2 c hm;omega
      ·have i1:I64 (valN (s.take j)*10)=True:=eq_true (by unfold I64;omega)
       have i2:I64 ((c.toNat:Int)-48)=True:=eq_true (by unfold I64;omega)
       have i3:I64 (valN (s.take j)*10+((c.toNat:Int)-48))=True:=eq_true (by unfold I64;omega)
       have i4:(0≤(c.toNat:Int)-48)=True:=eq_true (by omega)
       have i5:((c.toNat:Int)-48<256)=True:=eq_true (by omega)
       repeat' first|refine sP ?_ ?_<;>intro hb<;>(try rw[hb])<;>(try simp only[bb]at hb)<;>try simp only[go_sem,hlt',hc,h1,h2,i1,i2,i3,i4,i5]|refine aI ?_|simp only[go_sem,hlt',hc,h1,h2,i1,i2,i3,i4,i5]
       refine⟨by(first|exact wk_same (by simp only[go_sem,ic,e])|(refine wk_drop ?_ ?_ ?_ ?_ ?_<;>simp only[go_sem,ic,e])),fun d hdm=>?_⟩
       rw[take_add_one,getElem?_eq_getElem hlt]at hdm
       simp only[Option.toList_some,mem_append,List.mem_singleton]at hdm
       rcases hdm with hdm|rfl
       ·exact hx d hdm
       ·have:s[j]=c:=by rw[←hc,getElem?_eq_getElem hlt];rfl
        rw[this];omega
    ·have hge': ¬(j:Int)<s.length:=by omega
     obtain rfl:j=s.length:=by omega
     rw[take_length]at hx
     have hb0:=valN_bd s hx s.length (Nat.le_refl _)
     rw[take_length]at hb0
     have hp:(10:Int)^s.length≤10^6:=by
      have:s.length≤6:=hok.2.1
      exact_mod_cast Nat.pow_le_pow_right (by decide) this
     have i6:I64 (sg*valN s)=True:=eq_true (by rcases hsg2 with e|e<;>(rw[e];unfold I64;omega))
     repeat' first|refine sP ?_ ?_<;>intro hb<;>(try rw[hb])<;>(try simp only[bb]at hb)<;>try simp only[go_sem,hge',take_length,i6]|refine aI ?_|simp only[go_sem,hge',take_length,i6]
     exact hyes hx
  ·have h1:(s.length:Int)<1:=by omega
   repeat' first|refine sP ?_ ?_<;>intro hb<;>(try rw[hb])<;>(try simp only[bb]at hb)<;>try simp only[go_sem,hw,h1]|refine aI ?_|simp only[go_sem,hw,h1]
   first
    |exact hno fun q=>by have:=q.1.1;omega
    |exact(hno fun q=>by have:=q.1.1;omega).2
theorem join_app(l:List Str)(w:Str):Lib.join (l++[w]) [32]=if l=[]then w else Lib.join l [32]++[32]++w:=by
 cases l with
 |nil=>simp[Lib.join_one]
 |cons a r=>
  rw[if_neg (by simp),cons_append,Lib.join_cons,Lib.join_cons]
  simp[Lib.joinTail]
theorem c86(ws:List Str)(hs:shortW ws)(hl:ws.length≤61):PC prog 86 [.lst false 1 (strs ws)] (.str (Lib.join ws [32])):=by
 refine pB Tryz.func86 fun hlen=>CV.run ?_
 simp only[Tryz.f86]
 simp only[go_sem,length_map,and_true,true_and]at hlen
 repeat' first|refine sP ?_ ?_<;>intro hb<;>(try rw[hb])<;>(try simp only[bb]at hb)<;>try simp only[go_sem]|refine aI ?_|simp only[go_sem]
 refine vc_for (fun j=>⟨[(4,.int .i64 j),(3,.str (Lib.join (ws.take j) [32])),(2,.str []),(0,.lst false 1 (strs ws))],[]⟩) ws.length (fun _=>True) (by(first|exact wk_same (by simp only[go_sem,ic,take_zero,Lib.join_nil])|(refine wk_drop ?_ ?_ ?_ ?_ ?_<;>simp only[go_sem,ic,take_zero,Lib.join_nil]))) trivial ?_
 intro j hj _
 rcases Nat.lt_or_ge j ws.length with hlt|hge
 ·obtain⟨w,hw⟩:=get_of hlt
  have hlt':(j:Int)<ws.length:=by omega
  have e:ws.take (j+1)=ws.take j++[w]:=W2.take_succ hw
  have hjl:=join_le (ws.take j) fun u hu=>hs u (List.mem_of_mem_take hu)
  have hwl:=hs w (mem_of_getElem? hw)
  have htl:(ws.take j).length≤61:=by rw[length_take];omega
  have e2:=join_app (ws.take j) w
  rw[←e]at e2
  by_cases h0:(0:Int)<j
  ·rw[if_neg (by intro q;have:=congrArg List.length q;rw[length_take,length_nil]at this;omega)]at e2
   have i1:((((Lib.join (ws.take j) [32]).length+1:Nat):Int)≤9223372036854775807)=True:=eq_true (by omega)
   have i2:((((Lib.join (ws.take j) [32]++[32]).length+w.length:Nat):Int)≤9223372036854775807)=True:=eq_true (by rw[length_append,length_cons,length_nil];omega)
   repeat' first|refine sP ?_ ?_<;>intro hb<;>(try rw[hb])<;>(try simp only[bb]at hb)<;>try simp only[go_sem,hlt',hw,h0,i1,i2]|refine aI ?_|simp only[go_sem,hlt',hw,h0,i1,i2]
   exact(by(first|exact wk_same (by simp only[go_sem,ic,e2])|(refine wk_drop ?_ ?_ ?_ ?_ ?_<;>simp only[go_sem,ic,e2])))
  ·have ht0:ws.take j=[]:=by rw[show j=0 by omega];rfl
   have hj0:Lib.join (ws.take j) [32]=[]:=by rw[ht0];rfl
   rw[if_pos ht0]at e2
   have i2:(((0+w.length:Nat):Int)≤9223372036854775807)=True:=eq_true (by omega)
   repeat' first|refine sP ?_ ?_<;>intro hb<;>(try rw[hb])<;>(try simp only[bb]at hb)<;>try simp only[go_sem,hlt',hw,h0,hj0,i2]|refine aI ?_|simp only[go_sem,hlt',hw,h0,hj0,i2]
   all_goals exact(by(first|exact wk_same (by simp only[go_sem,ic,e2])|(refine wk_drop ?_ ?_ ?_ ?_ ?_<;>simp only[go_sem,ic,e2])))
 ·have hge': ¬(j:Int)<ws.length:=by omega
  obtain rfl:j=ws.length:=by omega
  repeat' first|refine sP ?_ ?_<;>intro hb<;>(try rw[hb])<;>(try simp only[bb]at hb)<;>try simp only[go_sem,hge',take_length]|refine aI ?_|simp only[go_sem,hge',take_length]
def sZ08c_f45(_:Nat):List (Nat×Nat):=[(0,0),(0,0),(0,0),(0,0),(0,0),(0,0),(0,0),(0,0),(0,0),(0,0),(0,0),(0,0),(0,0),(0,0)]
attribute [go_sem] sZ08c_f45
theorem splitP_app(c:UInt8): ∀l:Str,∃ pre last,splitP l=pre++[last]∧splitP (l++[c])=if c=32 then pre++[last,[]]else pre++[last++[c]]
 |[]=>⟨[],[],rfl,by by_cases h:c=32<;>simp[splitP,h]⟩
 |d::l=>by
  obtain⟨pre,last,h1,h2⟩:=splitP_app c l
  by_cases hd:d=32
  ·refine⟨[]::pre,last,by rw[splitP,if_pos hd,h1];rfl,?_⟩
   rw[cons_append,splitP,if_pos hd,h2]
   split<;>rfl
  ·cases pre with
   |nil=>
    refine⟨[],d::last,by rw[splitP,if_neg hd,h1];rfl,?_⟩
    rw[cons_append,splitP,if_neg hd,h2]
    by_cases h:c=32<;>simp[h]
   |cons a pre=>
    refine⟨(d::a)::pre,last,by rw[splitP,if_neg hd,h1];rfl,?_⟩
    rw[cons_append,splitP,if_neg hd,h2]
    by_cases h:c=32<;>simp[h]
theorem strs_set(l:List Str)(k:Nat)(s:Str):(strs l).set k [.str s]=strs (l.set k s):=by simp[strs,List.map_set]
theorem splitP_len: ∀l:Str,(splitP l).length≤l.length+1
 |[]=>by simp[splitP]
 |c::l=>by
  have:=splitP_len l
  unfold splitP
  split
  ·simp;omega
  ·split
   ·simp
   ·rename_i h;rw[h]at this;simp at this ⊢;omega
theorem splitP_short: ∀l:Str,∀ w,w∈splitP l→w.length≤l.length
 |[],w,h=>by simp[splitP]at h;simp[h]
 |c::l,w,h=>by
  have ih:=splitP_short l
  unfold splitP at h
  split at h
  ·rcases List.mem_cons.1 h with rfl|h
   ·simp
   ·have:=ih w h;simp;omega
  ·split at h
   ·simp at h;simp[h]
   ·rename_i u r e
    rcases List.mem_cons.1 h with rfl|h
    ·have:=ih u (by rw[e];simp);simp;omega
    ·have:=ih w (by rw[e];simp[h]);simp;omega
set_option maxHeartbeats 1000000 in
theorem c45(s:Str)(hl:s.length≤60):PC prog 45 [.str s] (.lst false 1 (strs (splitP s))):=by
 refine pB Tryz.func45 fun hlen=>CV.run ?_
 simp only[Tryz.f45]
 simp only[go_sem,length_map,and_true,true_and]at hlen
 repeat' first|refine sP ?_ ?_<;>intro hb<;>(try rw[hb])<;>(try simp only[bb]at hb)<;>try simp only[go_sem]|refine aI ?_|with_reducible refine dw sZ08c_f45 ?_|simp only[go_sem]
 refine vc_fw (fun j=>⟨[(4,.int .i64 j),(3,.row 0 (splitP (s.take j)).length),(2,.nilS),(0,.str s)],[.row 9 1 (strs (splitP (s.take j))) false]⟩) s.length (fun _=>True) (.base (by(first|exact wk_same (by simp only[go_sem,ic,take_zero,splitP,strs,map_cons,map_nil])|(refine wk_drop ?_ ?_ ?_ ?_ ?_<;>simp only[go_sem,ic,take_zero,splitP,strs,map_cons,map_nil])))) trivial ?_
 intro j hj _
 rcases Nat.lt_or_ge j s.length with hlt|hge
 ·have hlt':(j:Int)<s.length:=by omega
  have hc:s[j]?.getD 0=s.getD j 0:=by simp[List.getD]
  have e:s.take (j+1)=s.take j++[s.getD j 0]:=by rw[take_add_one,getElem?_eq_getElem hlt];simp[List.getD,getElem?_eq_getElem hlt]
  generalize s.getD j 0=c at hc e
  obtain⟨pre,last,h1,h2⟩:=splitP_app c (s.take j)
  rw[←e]at h2
  have hPl:=splitP_len (s.take j)
  have htl:(s.take j).length≤60:=by rw[length_take];omega
  have hla:=splitP_short (s.take j) last (by rw[h1];simp)
  have hPn:(splitP (s.take j)).length=pre.length+1:=by rw[h1];simp
  have hg:(splitP (s.take j))[pre.length]? =some last:=by rw[h1];simp
  by_cases h32:c=32
  ·rw[if_pos h32]at h2
   have h32':(c.toNat:Int)=32:=by rw[h32];rfl
   repeat' first|refine sP ?_ ?_<;>intro hb<;>(try rw[hb])<;>(try simp only[bb]at hb)<;>try simp only[go_sem,hlt',hc,h32']|refine aI ?_|with_reducible refine dw sZ08c_f45 ?_|simp only[go_sem,hlt',hc,h32']
   have e5:strs (pre++[last,[]])=strs (splitP (s.take j))++[[.str []]]:=by rw[h1];simp[strs]
   exact .base (by(first|exact wk_same (by simp only[go_sem,ic,h2,e5,hPn,length_append])|(refine wk_drop ?_ ?_ ?_ ?_ ?_<;>simp only[go_sem,ic,h2,e5,hPn,length_append])))
  ·rw[if_neg h32]at h2
   have h32': ¬(c.toNat:Int)=32:=fun q=>h32 ((u8_int c 32 (by decide)).mp (by exact_mod_cast q))
   have hkn:(((pre.length+1:Nat):Int)-1).toNat=pre.length:=by omega
   have k1:(0≤((pre.length+1:Nat):Int)-1)=True:=eq_true (by omega)
   have k2:(((pre.length+1:Nat):Int)-1<((pre.length+1:Nat):Int))=True:=eq_true (by omega)
   have hcut:List.drop j (List.take ((j:Int)+1).toNat s)=[c]:=by
    have:((j:Int)+1).toNat=j+1:=by omega
    rw[this,e,List.drop_append_of_le_length (by rw[length_take];omega),List.drop_of_length_le (by rw[length_take];omega)]
    rfl
   have e6:(strs (splitP (s.take j))).set pre.length [.str (last++[c])]=strs (pre++[last++[c]]):=by
    rw[strs_set,h1];simp
   repeat' first|refine sP ?_ ?_<;>intro hb<;>(try rw[hb])<;>(try simp only[bb]at hb)<;>try simp only[go_sem,hlt',hc,h32',hPn,hg,hkn,k1,k2,hcut]|refine aI ?_|with_reducible refine dw sZ08c_f45 ?_|simp only[go_sem,hlt',hc,h32',hPn,hg,hkn,k1,k2,hcut]
   exact .base (by(first|exact wk_same (by simp only[go_sem,ic,h2,e6,length_append])|(refine wk_drop ?_ ?_ ?_ ?_ ?_<;>simp only[go_sem,ic,h2,e6,length_append])))
 ·have hge': ¬(j:Int)<s.length:=by omega
  obtain rfl:j=s.length:=by omega
  repeat' first|refine sP ?_ ?_<;>intro hb<;>(try rw[hb])<;>(try simp only[bb]at hb)<;>try simp only[go_sem,hge',take_length,frzE_self]|refine aI ?_|with_reducible refine dw sZ08c_f45 ?_|simp only[go_sem,hge',take_length,frzE_self]
def manyF(w:Str):Int×Int:=if w=[116,114,97,105,110]∨w=[103,97,112]∨w=[99,97,115,116]∨w=[98,114,111,107,101]then(1,-1)else if w=[115,116,111,112,115]∨w=[108,101,97,118,101,115]∨w=[119,97,110,116]then(2,-1)else if w=[109,97,99,104,105,110,101]∨w=[98,117,110,100,108,101]then(3,-1)else if w=[115,117,114,101]∨w=[102,101,119,101,115,116]∨w=[116,111,108,100]∨w=[115,112,97,114,101]∨w=[110,101,119]∨w=[119,111,114,108,100,115]∨w=[116,101,115,116]then(-1,0)else if w=[119,97,105,116]∨w=[108,101,102,116]then(-1,1)else(-1,-1)
set_option maxHeartbeats 2000000 in
theorem c87(w:Str):PC prog 87 [.str w] (.tup [.int .i64 (manyF w).1,.int .i64 (manyF w).2]):=by
 refine pB Tryz.func87 fun hlen=>CV.run ?_
 simp only[Tryz.f87]
 simp only[go_sem,length_map,and_true,true_and]at hlen
 repeat' first|refine sP ?_ ?_<;>intro hb<;>(try rw[hb])<;>(try simp only[bb]at hb)<;>try simp only[go_sem]|refine aI ?_|simp only[go_sem]
 all_goals simp[manyF, *]
def sZ08e_f46(_:Nat):List (Nat×Nat):=[(0,0),(0,0),(0,0),(0,0),(0,0),(0,0),(0,0),(0,0)]
attribute [go_sem] sZ08e_f46
structure Ln where
 kind:Int
 of:Int
 word:Str
 text:Str
 nums:List Int
abbrev cL(x:Ln):List AV:=[.int .i64 x.kind,.int .i64 x.of,.str x.word,.str x.text,lN x.nums]
def ln0:Ln:=⟨0,0,[],[],[]⟩
abbrev z56:List AV:=[.int .i64 0,.int .i64 0,.str [],.str [],.nilS]
def allR(r:List Str):Prop:= ∀w,w∈r→isN w
noncomputable def wordsF(p:List Str):Ln:=
 if allR p.tail then
  if(p.tail.length:Int)=(manyF (p.headD [])).1 then⟨1,0,p.headD [],Lib.join p [32],p.tail.map nR⟩
  else if(p.tail.length:Int)=(manyF (p.headD [])).2 then⟨2,0,p.headD [],Lib.join p [32],p.tail.map nR⟩else ln0
 else ln0
theorem c46(p:List Str)(hs:shortW p)(hl:p.length≤61)(hne:p≠[]):PC prog 46 [.lst false 1 (strs p)] (.agg (cL (wordsF p))):=by
 obtain⟨p0,hw⟩: ∃w,p[0]? =some w:=by cases p with|nil=>exact absurd rfl hne|cons w r=>exact⟨w,rfl⟩
 have hd:p.headD []=p0:=by cases p with|nil=>exact absurd rfl hne|cons w r=>simpa using hw
 have hwl:(0:Int)<p.length:=by have:=(List.getElem?_eq_some_iff.1 hw).1;omega
 have h86:=c86 p hs hl
 have h87:=c87 p0
 refine pB Tryz.func46 fun hlen=>CV.run ?_
 simp only[Tryz.f46]
 simp only[go_sem,length_map,and_true,true_and]at hlen
 repeat' first|refine sP ?_ ?_<;>intro hb<;>(try rw[hb])<;>(try simp only[bb]at hb)<;>try simp only[go_sem,hw,hwl]|refine aI ?_|with_reducible refine dw sZ08e_f46 ?_|with_reducible refine cq h86 ?_|simp only[go_sem,hw,hwl]
 have htl:p.tail.length+1=p.length:=by rw[length_tail];omega
 have nl: ∀j:Nat,j≤p.tail.length→((p.tail.map nR).take j).length=j:=fun j hj=>by rw[length_take,length_map];omega
 refine vc_fw (fun j=>⟨[(4,.int .i64 ((j:Int)+1)),(3,.lp 1 0),(2,.lp 0 0),(0,.lst false 1 (strs p))],[.box 56 z56 false,.box 56 [.int .i64 0,.int .i64 0,.str p0,.str (Lib.join p [32]),.row 2 j] false,.row 3 1 (((p.tail.map nR).take j).map encN) false]⟩) p.tail.length (fun j=> ∀k,k<j→ ∀w,p[k+1]? =some w→isN w) (.nilB 1 4 3 1 rfl rfl (by omega) (.base (by(first|exact wk_same (by simp only[go_sem,ic,take_zero,map_nil])|(refine wk_drop ?_ ?_ ?_ ?_ ?_<;>simp only[go_sem,ic,take_zero,map_nil]))))) (fun k h=>by omega) ?_
 intro j hj hx
 have hnl:=nl j hj
 rcases Nat.lt_or_ge j p.tail.length with hlt|hge
 ·obtain⟨w,hww⟩:=get_of (show j+1<p.length by omega)
  have hlt':(j:Int)+1<p.length:=by omega
  have hj1:((j:Int)+1).toNat=j+1:=by omega
  have h1':(0≤(j:Int)+1)=True:=eq_true (by omega)
  have hi:I64 ((j:Int)+1+1)=True:=eq_true (by unfold I64;omega)
  have hwl2:=hs w (mem_of_getElem? hww)
  have h47:=c47 w hwl2
  have hwt:p.tail[j]? =some w:=by rw[List.getElem?_tail];exact hww
  have e:(p.tail.map nR).take (j+1)=(p.tail.map nR).take j++[nR w]:=by rw[take_add_one,List.getElem?_map,hwt];rfl
  by_cases hn:isN w
  ·repeat' first|refine sP ?_ ?_<;>intro hb<;>(try rw[hb])<;>(try simp only[bb]at hb)<;>try simp only[go_sem,hlt',hww,hj1,h1',hn,hi,hnl,length_map]|refine aI ?_|with_reducible refine dw sZ08e_f46 ?_|with_reducible refine cq h47 ?_|simp only[go_sem,hlt',hww,hj1,h1',hn,hi,hnl,length_map]
   refine⟨.base (by(first|exact wk_same (by simp only[go_sem,ic,e,encN,List.map_append,map_cons,map_nil])|(refine wk_drop ?_ ?_ ?_ ?_ ?_<;>simp only[go_sem,ic,e,encN,List.map_append,map_cons,map_nil]))),fun k hk u hu=>?_⟩
   rcases Nat.lt_or_ge k j with h|h
   ·exact hx k h u hu
   ·obtain rfl:k=j:=by omega
    rw[hww]at hu;cases hu;exact hn
  ·have e0:wordsF p=ln0:=if_neg fun q=>hn (q w (mem_of_getElem? hwt))
   repeat' first|refine sP ?_ ?_<;>intro hb<;>(try rw[hb])<;>(try simp only[bb]at hb)<;>try simp only[go_sem,hlt',hww,hj1,h1',hn,e0,ln0,map_nil]|refine aI ?_|with_reducible refine dw sZ08e_f46 ?_|with_reducible refine cq h47 ?_|simp only[go_sem,hlt',hww,hj1,h1',hn,e0,ln0,map_nil]
 ·have hge': ¬(j:Int)+1<p.length:=by omega
  obtain rfl:j=p.tail.length:=by omega
  have hall:allR p.tail:=fun w hwm=>by
   obtain⟨k,hk,he⟩:=List.getElem_of_mem hwm
   exact hx k hk w (by rw[←List.getElem?_tail,getElem?_eq_getElem hk,he])
  have ht:(p.tail.map nR).take p.tail.length=p.tail.map nR:=List.take_of_length_le (by rw[length_map];omega)
  rw[ht]at hnl
  have e0:wordsF p=if(p.tail.length:Int)=(manyF p0).1 then⟨1,0,p0,Lib.join p [32],p.tail.map nR⟩else if(p.tail.length:Int)=(manyF p0).2 then⟨2,0,p0,Lib.join p [32],p.tail.map nR⟩else ln0:=by rw[wordsF,if_pos hall,hd]
  by_cases q1:(p.tail.length:Int)=(manyF p0).1
  ·rw[if_pos q1]at e0
   have g2: ¬(manyF p0).1+1<(p.length:Int):=by rw[←q1];exact hge'
   repeat' first|refine sP ?_ ?_<;>intro hb<;>(try rw[hb])<;>(try simp only[bb]at hb)<;>try simp only[go_sem,hge',g2,hw,hwl,ht,q1,e0,frzE_self,pureN,length_map]|refine aI ?_|with_reducible refine dw sZ08e_f46 ?_|with_reducible refine cq h87 ?_|simp only[go_sem,hge',g2,hw,hwl,ht,q1,e0,frzE_self,pureN,length_map]
  ·rw[if_neg q1]at e0
   by_cases q2:(p.tail.length:Int)=(manyF p0).2
   ·rw[if_pos q2]at e0
    have g2: ¬(manyF p0).2+1<(p.length:Int):=by rw[←q2];exact hge'
    have q3: ¬(manyF p0).2=(manyF p0).1:=by rw[←q2];exact q1
    repeat' first|refine sP ?_ ?_<;>intro hb<;>(try rw[hb])<;>(try simp only[bb]at hb)<;>try simp only[go_sem,hge',g2,hw,hwl,ht,q3,q2,e0,frzE_self,pureN,length_map]|refine aI ?_|with_reducible refine dw sZ08e_f46 ?_|with_reducible refine cq h87 ?_|simp only[go_sem,hge',g2,hw,hwl,ht,q3,q2,e0,frzE_self,pureN,length_map]
   ·rw[if_neg q2]at e0
    repeat' first|refine sP ?_ ?_<;>intro hb<;>(try rw[hb])<;>(try simp only[bb]at hb)<;>try simp only[go_sem,hge',hw,hwl,ht,q1,q2,e0,ln0,map_nil]|refine aI ?_|with_reducible refine dw sZ08e_f46 ?_|with_reducible refine cq h87 ?_|simp only[go_sem,hge',hw,hwl,ht,q1,q2,e0,ln0,map_nil]
end Go.Proofs.YtoadkchhimojlaaGreatDoor.OV
