/- Contracts of functions of the given program, without a condition beyond those that each theorem states; they lead to the given statement. -/
import Derived.Test.YtoadkchhimojlaaGreatDoorLAl
import Derived.Test.YtoadkchhimojlaaGreatDoorLAk
set_option linter.unusedSectionVars false
set_option linter.unusedSimpArgs false
set_option linter.unusedVariables false
set_option maxRecDepth 100000
open List(append_assoc cons_append drop_zero length_append length_cons length_drop length_map length_nil map_cons map_map map_nil nil_append set_cons_succ set_cons_zero)
open Go.Proofs.Tryz(prog)
namespace Go.Proofs.YtoadkchhimojlaaGreatDoor.OV
open Go Go.Fl
open Classical
def findI(n line:Int):List Rec→Nat→Int
 |[],_=> -1
 |r::rs,i=>if r.line=n∧n<line then i else findI n line rs (i+1)
theorem findI_bd(n line:Int): ∀(rs:List Rec) (i:Nat),-1≤findI n line rs i∧findI n line rs i<(i+rs.length:Nat)∧(findI n line rs i<0→findI n line rs i= -1)
 |[],i=>⟨Int.le_refl _,by simp only[findI,length_nil];omega,fun _=>rfl⟩
 |r::rs,i=>by
  have:=findI_bd n line rs (i+1)
  simp only[findI,length_cons]
  split
  ·omega
  ·obtain⟨h1,h2,h3⟩:=this;exact⟨h1,by omega,h3⟩
theorem c147(r:Rec)(n line:Int):PC prog 147 [.agg (encR r),.pp [.int .i64 n],.pp [.int .i64 line]] (.bool (decide (r.line=n∧n<line))):=by
 obtain⟨rl,rr⟩:=r
 simp only
 by_cases h1:rl=n
 ·by_cases h2:n<line
  ·rw[decide_eq_true ⟨h1,h2⟩]
   cases rr<;>(
   refine pB Tryz.func147 fun hlen=>CV.run ?_
   simp only[Tryz.f147]
   simp only[go_sem,length_map,and_true,true_and]at hlen
   repeat' first|refine sP ?_ ?_<;>intro hb<;>(try rw[hb])<;>(try simp only[bb]at hb)<;>try simp only[go_sem,encR,rdV,h1,h2]|refine aI ?_|simp only[go_sem,encR,rdV,h1,h2])
  ·rw[decide_eq_false fun q=>h2 q.2]
   cases rr<;>(
   refine pB Tryz.func147 fun hlen=>CV.run ?_
   simp only[Tryz.f147]
   simp only[go_sem,length_map,and_true,true_and]at hlen
   repeat' first|refine sP ?_ ?_<;>intro hb<;>(try rw[hb])<;>(try simp only[bb]at hb)<;>try simp only[go_sem,encR,rdV,h1,h2]|refine aI ?_|simp only[go_sem,encR,rdV,h1,h2])
 ·rw[decide_eq_false fun q=>h1 q.1]
  cases rr<;>(
  refine pB Tryz.func147 fun hlen=>CV.run ?_
  simp only[Tryz.f147]
  simp only[go_sem,length_map,and_true,true_and]at hlen
  repeat' first|refine sP ?_ ?_<;>intro hb<;>(try rw[hb])<;>(try simp only[bb]at hb)<;>try simp only[go_sem,encR,rdV,h1]|refine aI ?_|simp only[go_sem,encR,rdV,h1])
theorem c146(rs:List Rec)(hn:rs.length≤60)(n line:Int):PC prog 146 [.lst false 2 (rs.map encR),.fn 147 [.pp [.int .i64 n],.pp [.int .i64 line]]] (.int .i64 (findI n line rs 0)):=by
 refine pB Tryz.func146 fun hlen=>CV.run ?_
 simp only[Tryz.f146]
 simp only[go_sem,length_map,and_true,true_and]at hlen
 repeat' first|refine sP ?_ ?_<;>intro hb<;>(try rw[hb])<;>(try simp only[bb]at hb)<;>try simp only[go_sem,length_map]|refine aI ?_|simp only[go_sem,length_map]
 refine vc_for (fun j=>⟨[(8,.int .i64 j),(7,.int .i64 rs.length),(0,.lst false 2 (rs.map encR)),(1,.fn 147 [.pp [.int .i64 n],.pp [.int .i64 line]])],[]⟩) rs.length (fun j=>findI n line rs 0=findI n line (rs.drop j) j) (by exact w0) rfl ?_
 intro j hj hx
 rcases Nat.lt_or_ge j rs.length with hlt|hge
 ·obtain⟨r,hr⟩:=get_of hlt
  have hlt':(j:Int)<rs.length:=by omega
  have h147:=c147 r n line
  rw[drop_cons' hr,findI]at hx
  by_cases hc:r.line=n∧n<line
  ·rw[if_pos hc]at hx
   rw[decide_eq_true hc]at h147
   obtain⟨rl,rr⟩:=r
   cases rr<;>simp only[encR,rdV]at h147<;>(
   repeat' first|refine sP ?_ ?_<;>intro hb<;>(try rw[hb])<;>(try simp only[bb]at hb)<;>try simp only[go_sem,hlt',hr,hx,encR,rdV,length_map]|refine aI ?_|((with_reducible first|refine vp h147 ?_ ?_);focus (first|exact⟨rfl,.inl ⟨by first|rfl|simp only[go_sem,hlt',hr,hx,encR,rdV,length_map,AV.pureL,AV.pure],by first|(simp only[go_sem,hlt',hr,hx,encR,rdV,length_map];done)|rfl⟩⟩|exact⟨rfl,.inr ⟨rfl,by simp only[go_sem,hlt',hr,hx,encR,rdV,length_map]⟩⟩))|simp only[go_sem,hlt',hr,hx,encR,rdV,length_map])
  ·rw[if_neg hc]at hx
   rw[decide_eq_false hc]at h147
   obtain⟨rl,rr⟩:=r
   cases rr<;>simp only[encR,rdV]at h147<;>(
   repeat' first|refine sP ?_ ?_<;>intro hb<;>(try rw[hb])<;>(try simp only[bb]at hb)<;>try simp only[go_sem,hlt',hr,encR,rdV,length_map]|refine aI ?_|((with_reducible first|refine vp h147 ?_ ?_);focus (first|exact⟨rfl,.inl ⟨by first|rfl|simp only[go_sem,hlt',hr,encR,rdV,length_map,AV.pureL,AV.pure],by first|(simp only[go_sem,hlt',hr,encR,rdV,length_map];done)|rfl⟩⟩|exact⟨rfl,.inr ⟨rfl,by simp only[go_sem,hlt',hr,encR,rdV,length_map]⟩⟩))|simp only[go_sem,hlt',hr,encR,rdV,length_map]
   refine⟨?_,hx⟩
   exact w0)
 ·have hge': ¬(j:Int)<rs.length:=by omega
  obtain rfl:j=rs.length:=by omega
  rw[List.drop_length,findI]at hx
  repeat' first|refine sP ?_ ?_<;>intro hb<;>(try rw[hb])<;>(try simp only[bb]at hb)<;>try simp only[go_sem,hge',hx,length_map]|refine aI ?_|simp only[go_sem,hge',hx,length_map]
theorem c64(t:Town)(rs:List Rec)(hn:rs.length≤60)(n line:Int)(H:Heap)(b:Nat)(hd:Desk t rs b H):
  HCH prog 64 [.lp 3 0,.int .i64 n,.int .i64 line] H fun r H'=>r=(if findI n line rs 0<0 then .nilP else .rp 5 rs.length (findI n line rs 0).toNat 0)∧H'=H:=by
 obtain⟨hlen,h6,hbel,hD,hR⟩:=id hd
 have hD': ∀own,(H++own)[3]? =some (.box 66 (HDK t rs) false):=fun own=>apl hD
 have hR': ∀own,(H++own)[5]? =some (.row 72 2 (rs.map encR) false):=fun own=>apl hR
 have ga1: ∀(own:Heap) (i:Nat),(H++own)[b+i]? =own[i]? :=fun own i=>T4.ga hlen i
 have ga2: ∀(own:Heap),(H++own)[b]? =own[0]? :=fun own=>T4.ga0 hlen
 have hq3: ∀k,decide (3<b+k)=true:=fun k=>decide_eq_true (by omega)
 have hq5: ∀k,decide (5<b+k)=true:=fun k=>decide_eq_true (by omega)
 have hf:=findI_bd n line rs 0
 have hq50:decide (5<b)=true:=decide_eq_true (by omega)
 have h146:=c146 rs hn n line
 refine HCH.bodyN Tryz.func64 (by kernel_rfl) rfl (by simp[Tryz.f64]) ?_
 simp only[Tryz.f64]
 refine CV.run ?_
 repeat' first|refine sP ?_ ?_<;>intro hb<;>(try rw[hb])<;>(try simp only[bb]at hb)<;>try simp only[go_sem,hlen,hD,hD',hR,hR',ga1,ga2,frzE_self,pureR,length_append,append_assoc,length_map]|refine aI ?_|((with_reducible first|refine vp h146 ?_ ?_);focus (first|exact⟨rfl,.inl ⟨by first|rfl|simp only[go_sem,hlen,hD,hD',hR,hR',ga1,ga2,frzE_self,pureR,length_append,append_assoc,length_map,AV.pureL,AV.pure],by first|(simp only[go_sem,hlen,hD,hD',hR,hR',ga1,ga2,frzE_self,pureR,length_append,append_assoc,length_map];done)|rfl⟩⟩|exact⟨rfl,.inr ⟨rfl,by simp only[go_sem,hlen,hD,hD',hR,hR',ga1,ga2,frzE_self,pureR,length_append,append_assoc,length_map]⟩⟩))|simp only[go_sem,hlen,hD,hD',hR,hR',ga1,ga2,frzE_self,pureR,length_append,append_assoc,length_map]
 ·have hb0:belowH b H:=hbel 0
  have hb':findI n line rs 0<0:=by assumption
  exact⟨⟨[(6,.nilP)],H⟩,.base (by(first|exact wk_same (by simp only[go_sem,ic,pfx_self,T4.belowH_appE,dadd,dadd0,hlen,hb0,hq3,hq5,hq50,Nat.le_add_right,Nat.le_refl,length_append,length_cons,length_nil])|(refine wk_drop ?_ ?_ ?_ ?_ ?_<;>simp only[go_sem,ic,pfx_self,T4.belowH_appE,dadd,dadd0,hlen,hb0,hq3,hq5,hq50,Nat.le_add_right,Nat.le_refl,length_append,length_cons,length_nil]))),by rw[if_pos hb'];rfl,rfl⟩
 ·have hb': ¬findI n line rs 0<0:=by assumption
  have hb0:belowH b H:=hbel 0
  exact⟨⟨[(6,.rp 5 rs.length (findI n line rs 0).toNat 0)],H⟩,.base (by(first|exact wk_same (by simp only[go_sem,ic,pfx_self,T4.belowH_appE,dadd,dadd0,hlen,hb0,hq3,hq5,hq50,Nat.le_add_right,Nat.le_refl,length_append,length_cons,length_nil])|(refine wk_drop ?_ ?_ ?_ ?_ ?_<;>simp only[go_sem,ic,pfx_self,T4.belowH_appE,dadd,dadd0,hlen,hb0,hq3,hq5,hq50,Nat.le_add_right,Nat.le_refl,length_append,length_cons,length_nil]))),by rw[if_neg hb'];rfl,rfl⟩
theorem cells_rdV(e:Option (List Str)):cellsA (rdV e)=some [rdV e]:=by cases e<;>rfl
def cntL(line:Int):List Rec→Nat
 |[]=>0
 |r::rs=>if line≤r.line then 0 else cntL line rs+1
theorem holdF_len(line:Int): ∀(rs:List Rec) (t:Town),(holdF line t rs).length=cntL line rs
 |[],_=>rfl
 |r::rs,t=>by
  rw[holdF,cntL];split
  ·rfl
  ·rw[length_cons,holdF_len line rs]
theorem cntL_le(line:Int): ∀rs:List Rec,cntL line rs≤rs.length
 |[]=>Nat.le_refl _
 |r::rs=>by
  have:=cntL_le line rs
  rw[cntL];split
  ·simp
  ·simp only[length_cons];omega
theorem cntL_set(line:Int)(e:Option (List Str)): ∀(rs:List Rec) (i:Nat),cntL line (rs.modify i fun r=>⟨r.line,e⟩)=cntL line rs
 |[],i=>by simp
 |r::rs,0=>by simp[List.modify_zero_cons,cntL]
 |r::rs,i+1=>by simp only[List.modify_succ_cons,cntL,cntL_set line e rs i]
theorem holdF_01(line:Int): ∀(rs:List Rec) (t:Town) (j:Nat) (v:Int),(holdF line t rs)[j]? =some v→v=0∨v=1
 |[],_,_,_,h=>by simp[holdF]at h
 |r::rs,t,j,v,h=>by
  rw[holdF]at h
  split at h
  ·simp at h
  ·cases j with
   |zero=>
    simp only[List.getElem?_cons_zero,Option.some.injEq]at h
    subst h;split<;>simp
   |succ j=>exact holdF_01 line rs _ j v (by simpa using h)
noncomputable def corR(rs:List Rec)(n line:Int)(e:Option (List Str)):List Rec:=
 if findI n line rs 0<0 then rs else rs.modify (findI n line rs 0).toNat fun r=>⟨r.line,e⟩
def lineOk(rs:List Rec):Prop:= ∀r,r∈rs→0≤r.line∧r.line<100
theorem set_same{H:Heap}{i:Nat}{x:Blk}(h:H[i]? =some x):H.set i x=H:=by
 obtain⟨h1,h2⟩:=List.getElem?_eq_some_iff.1 h
 rw[←h2];exact List.set_getElem_self h1
theorem belowH_put{n:Nat}{x:Blk}: ∀{H:Heap} (h:belowH n H) (i:Nat) (hx:belowB n x),belowH n (H.set i x)
 |[],_,_,_=>trivial
 |y::H,h,0,hx=>⟨hx,h.2⟩
 |y::H,h,i+1,hx=>⟨h.1,belowH_put h.2 i hx⟩
theorem Desk.put{t:Town}{rs rs2:List Rec}{b:Nat}{H:Heap}(h:Desk t rs b H)(hl:rs2.length=rs.length):Desk t rs2 b (H.set 5 (.row 72 2 (rs2.map encR) false)):=by
 have h5:5<H.length:=by rw[h.len];have:=h.six;omega
 refine⟨by rw[List.length_set];exact h.len,h.six,fun k=>?_,?_,?_⟩
 ·exact belowH_put (h.bel k) _ (fun e he=>belowL_pure _ e ((show pureE (rs2.map encR) by rw[pureR];trivial) e he))
 ·rw[List.getElem?_set_ne (by omega),h.d,HDK,HDK,hl]
 ·rw[List.getElem?_set_self h5]
theorem mod_enc{rs:List Rec}{i:Nat}{r:Rec}{e:Option (List Str)}(hr:rs[i]? =some r):(rs.map encR).set i [.int .i64 r.line,rdV e]=(rs.modify i fun r=>⟨r.line,e⟩).map encR:=by
 apply List.ext_getElem?
 intro j
 rw[List.getElem?_set,List.getElem?_map,List.getElem?_map,List.getElem?_modify,length_map]
 obtain⟨h1,h2⟩:=List.getElem?_eq_some_iff.1 hr
 by_cases q:i=j
 ·subst q
  have h2:rs[i].line=r.line:=by rw[(List.getElem?_eq_some_iff.1 hr).2]
  simp[h1,encR,h2]
 ·simp[q]
noncomputable def corO(rs:List Rec)(A B:List Int):Nat→Str
 |0=>wordS true
 |j+1=>if B.getD j 0=A.getD j 0 then corO rs A B j else corO rs A B j++32::(Lib.itoa (rs.getD j ⟨0,none⟩).line++58::wordS (decide (B.getD j 0=1)))
noncomputable def corS(t:Town)(rs:List Rec)(n line:Int)(e:Option (List Str)):Str:=
 if findI n line rs 0<0 then wordS false else corO (corR rs n line e) (holdF line t rs) (holdF line t (corR rs n line e)) (cntL line rs)
theorem mem_mod{rs:List Rec}{i:Nat}{e:Option (List Str)}{r:Rec}(h:r∈rs.modify i fun r=>⟨r.line,e⟩):r∈rs∨ ∃q,q∈rs∧r=⟨q.line,e⟩:=by
 obtain⟨j,hj⟩:=List.mem_iff_getElem?.1 h
 rw[List.getElem?_modify]at hj
 cases hq:rs[j]? with
 |none=>rw[hq]at hj;simp at hj
 |some q=>
  rw[hq]at hj
  have hm:=List.mem_of_getElem? hq
  by_cases hij:i=j
  ·subst hij
   simp only[if_true,Option.map_eq_map,Option.map_some,Option.some.injEq]at hj
   exact .inr ⟨q,hm,hj.symm⟩
  ·simp only[hij,if_false,Option.map_eq_map,Option.map_some,Option.some.injEq,id]at hj
   exact .inl (hj▸hm)
theorem okR_mod{rs:List Rec}{i:Nat}{e:Option (List Str)}{r:Rec}(hok: ∀r,r∈rs→okR r)(he:okR ⟨0,e⟩)(h:r∈rs.modify i fun r=>⟨r.line,e⟩):okR r:=by
 rcases mem_mod h with q|⟨q,_,rfl⟩
 ·exact hok r q
 ·exact he
theorem lineOk_mod{rs:List Rec}{i:Nat}{e:Option (List Str)}{r:Rec}(hln:lineOk rs)(h:r∈rs.modify i fun r=>⟨r.line,e⟩):0≤r.line∧r.line<100:=by
 rcases mem_mod h with q|⟨q,h1,rfl⟩
 ·exact hln r q
 ·exact hln q h1
set_option maxHeartbeats 4000000 in
theorem c65(t:Town)(hv:vT t)(rs:List Rec)(hn:rs.length≤60)(hok: ∀r,r∈rs→okR r)(hln:lineOk rs)(line n:Int)(e:Option (List Str))(he:okR ⟨0,e⟩)(H:Heap)(b:Nat)(hd:Desk t rs b H):
  HCH prog 65 [.lp 3 0,.int .i64 line,.int .i64 n,rdV e] H fun r H'=>r= .str (corS t rs n line e)∧H'=H.set 5 (.row 72 2 ((corR rs n line e).map encR) false):=by
 obtain⟨hlen,h6,hbel,hD,hR⟩:=id hd
 have hb0:belowH b H:=hbel 0
 have hD': ∀own,(H++own)[3]? =some (.box 66 (HDK t rs) false):=fun own=>apl hD
 have hR': ∀own,(H++own)[5]? =some (.row 72 2 (rs.map encR) false):=fun own=>apl hR
 have ga1: ∀(own:Heap) (i:Nat),(H++own)[b+i]? =own[i]? :=fun own i=>T4.ga hlen i
 have ga2: ∀(own:Heap),(H++own)[b]? =own[0]? :=fun own=>T4.ga0 hlen
 have hq3: ∀k,decide (3<b+k)=true:=fun k=>decide_eq_true (by omega)
 have hq5: ∀k,decide (5<b+k)=true:=fun k=>decide_eq_true (by omega)
 have hq30:decide (3<b)=true:=decide_eq_true (by omega)
 have hq50:decide (5<b)=true:=decide_eq_true (by omega)
 have h60a:PC prog 60 [.int .i64 1] (.str (wordS true)):=c60 true
 have h60b:PC prog 60 [.int .i64 0] (.str (wordS false)):=c60 false
 obtain⟨f1,f2,f3⟩:=findI_bd n line rs 0
 refine HCH.bodyN Tryz.func65 (by kernel_rfl) rfl (by simp[Tryz.f65]) ?_
 simp only[Tryz.f65]
 refine CV.run ?_
 repeat' first|refine sP ?_ ?_<;>intro hb<;>(try rw[hb])<;>(try simp only[bb]at hb)<;>try simp only[go_sem,hlen]|refine aI ?_|simp only[go_sem,hlen]
 refine vcP_here (c64 t rs hn n line H b hd) ?_
 rintro r H' ⟨rfl,hH⟩
 rw[hH]
 by_cases hf:findI n line rs 0<0
 ·rw[if_pos hf]
  repeat' first|refine sP ?_ ?_<;>intro hb<;>(try rw[hb])<;>(try simp only[bb]at hb)<;>try simp only[go_sem,hlen]|refine aI ?_|with_reducible refine cq h60a ?_|with_reducible refine cq h60b ?_|simp only[go_sem,hlen]
  have e1:corR rs n line e=rs:=if_pos hf
  have e0:corS t rs n line e=wordS false:=if_pos hf
  rw[e0]
  exact⟨⟨[(8,.str (wordS false))],H⟩,.base (by(first|exact wk_same (by simp only[go_sem,ic,pfx_self,T4.belowH_appE,dadd,dadd0,hlen,hb0,hq3,hq5,hq50,Nat.le_add_right,Nat.le_refl,length_append,length_cons,length_nil])|(refine wk_drop ?_ ?_ ?_ ?_ ?_<;>simp only[go_sem,ic,pfx_self,T4.belowH_appE,dadd,dadd0,hlen,hb0,hq3,hq5,hq50,Nat.le_add_right,Nat.le_refl,length_append,length_cons,length_nil]))),rfl,by rw[e1,set_same hR]⟩
 ·rw[if_neg hf]
  repeat' first|refine sP ?_ ?_<;>intro hb<;>(try rw[hb])<;>(try simp only[bb]at hb)<;>try simp only[go_sem,hlen]|refine aI ?_|simp only[go_sem,hlen]
  refine vcP_here (c148 t hv rs hn hok line H b hd) ?_
  rintro r H' ⟨rfl,hH⟩
  rw[hH]
  obtain⟨i,hi⟩: ∃i:Nat,findI n line rs 0=i:=⟨(findI n line rs 0).toNat,by omega⟩
  have hil:i<rs.length:=by omega
  obtain⟨r,hr⟩:=get_of hil
  have hco:corR rs n line e=rs.modify i fun r=>⟨r.line,e⟩:=by rw[corR,if_neg hf,hi];rfl
  have hme:=mod_enc (e:=e) hr
  have hcl:=cntL_set line e rs i
  have e0:corS t rs n line e=corO (corR rs n line e) (holdF line t rs) (holdF line t (corR rs n line e)) (cntL line rs):=if_neg hf
  rw[e0,hco]
  have hok2: ∀r,r∈rs.modify i (fun r=>⟨r.line,e⟩)→okR r:=fun r hr=>okR_mod hok he hr
  have hln2:lineOk (rs.modify i fun r=>⟨r.line,e⟩):=fun r hr=>lineOk_mod hln hr
  have hl2:(rs.modify i fun r=>⟨r.line,e⟩).length=rs.length:=by simp
  generalize (rs.modify i fun r=>⟨r.line,e⟩)=rs2 at hme hcl hok2 hln2 hl2 ⊢
  have hd2:=hd.put hl2
  have hs5: ∀own,(H++own).set 5 (.row 72 2 (rs2.map encR) false)=H.set 5 (.row 72 2 (rs2.map encR) false)++own:=fun own=>List.set_append_left _ _ (by omega)
  generalize H.set 5 (.row 72 2 (rs2.map encR) false)=H2 at hd2 hs5 ⊢
  have hcv:=cells_rdV e
  simp only[cellsA,AV.oneA]at hcv
  repeat' first|refine sP ?_ ?_<;>intro hb<;>(try rw[hb])<;>(try simp only[bb]at hb)<;>try simp only[go_sem,hlen,hi,hil,hr,hR',hcv,hme,hs5,encR,length_map]|refine aI ?_|with_reducible refine cq h60a ?_|with_reducible refine cq h60b ?_|simp only[go_sem,hlen,hi,hil,hr,hR',hcv,hme,hs5,encR,length_map]
  obtain⟨hlen2,_,hbel2,hD2,hR2⟩:=id hd2
  have hb2:belowH b H2:=hbel2 0
  refine vcP_here (c148 t hv rs2 (by omega) hok2 line _ (b+4) (hd2.app rfl fun k=>by(try(simp only[go_sem,belowH]))<;>(try simp)<;>(try omega))) ?_
  rintro r' H' ⟨rfl,hH⟩
  rw[hH]
  have hR2': ∀own,(H2++own)[5]? =some (.row 72 2 (rs2.map encR) false):=fun own=>apl hR2
  have hD2': ∀own,(H2++own)[3]? =some (.box 66 (HDK t rs2) false):=fun own=>apl hD2
  have gb1: ∀(own:Heap) (i:Nat),(H2++own)[b+i]? =own[i]? :=fun own i=>T4.ga hlen2 i
  have gb2: ∀(own:Heap),(H2++own)[b]? =own[0]? :=fun own=>T4.ga0 hlen2
  have hA:=holdF_len line rs t
  have hB:=holdF_len line rs2 t
  have hC:=cntL_le line rs
  rw[hcl]at hB
  repeat' first|refine sP ?_ ?_<;>intro hb<;>(try rw[hb])<;>(try simp only[bb]at hb)<;>try simp only[go_sem,hlen2,gb1,gb2,Nat.add_assoc,append_assoc,length_map]|refine aI ?_|simp only[go_sem,hlen2,gb1,gb2,Nat.add_assoc,append_assoc,length_map]
  refine vc_fx (fun j (o:Str)=>⟨[(33,.int .i64 j),(32,.int .i64 (holdF line t rs2).length),(31,.row (b+7) (holdF line t rs2).length),(11,.str o),(10,.row (b+3) (holdF line t rs).length),(0,.lp 3 0)],H2++[.box 24 [.row (b+3) (holdF line t rs).length] false,.box 120 [.lp 3 0] false,.box 3 [.int .i64 line] false,.row 3 1 (List.map encN (holdF line t rs)) false,.box 24 [.row (b+7) (holdF line t rs2).length] false,.box 120 [.lp 3 0] false,.box 3 [.int .i64 line] false,.row 3 1 (List.map encN (holdF line t rs2)) false]⟩) (holdF line t rs2).length (fun j o=>o=corO rs2 (holdF line t rs) (holdF line t rs2) j∧o.length≤2+20*j) (wordS true) (.base (T4.wk_eq (by(simp only[go_sem,Nat.add_assoc,append_assoc])) (by(simp only[go_sem,Nat.add_assoc])))) ⟨rfl,by decide⟩ ?_
  rintro j o hj ⟨hoe,ho⟩
  rcases Nat.lt_or_ge j (holdF line t rs2).length with hlt|hge
  ·obtain⟨v,hv2⟩:=get_of hlt
   obtain⟨u,hu⟩:=get_of (l:=holdF line t rs) (j:=j) (by omega)
   obtain⟨x,hx⟩:=get_of (l:=rs2) (j:=j) (by omega)
   have hlt':(j:Int)<(holdF line t rs2).length:=by omega
   have hlt2:(j:Int)<(holdF line t rs).length:=by omega
   have hlt3:(j:Int)<rs2.length:=by omega
   have hlt4:j<rs2.length:=by omega
   obtain⟨xl,xr⟩:=x
   have gB:(holdF line t rs2).getD j 0=v:=by simp[List.getD,hv2]
   have gA:(holdF line t rs).getD j 0=u:=by simp[List.getD,hu]
   have gR:rs2.getD j ⟨0,none⟩=⟨xl,xr⟩:=by simp[List.getD,hx]
   have hoS:corO rs2 (holdF line t rs) (holdF line t rs2) (j+1)=if v=u then o else o++32::(Lib.itoa xl++58::wordS (decide (v=1))):=by rw[corO,gB,gA,gR,← hoe]
   have hxl:=hln2 _ (List.mem_of_getElem? hx)
   have h109:=c109 xl (by unfold I64;simp only at hxl;omega)
   have hil2:(Lib.itoa xl).length≤2:=itoa_s hxl.1 (by simp only at hxl;omega)
   have hw1:(wordS true).length=2:=rfl
   have hw0:(wordS false).length=2:=rfl
   have g1:(((1+(Lib.itoa xl).length:Nat):Int)≤9223372036854775807)=True:=eq_true (by omega)
   rcases holdF_01 line rs2 t j v hv2 with rfl|rfl
   ·by_cases q:(0:Int)=u
    ·subst q
     repeat' first|refine sP ?_ ?_<;>intro hb<;>(try rw[hb])<;>(try simp only[bb]at hb)<;>try simp only[go_sem,hlen2,hlt',hlt2,hlt3,hlt4,hv2,hu,hx,encN,encR,gb1,gb2,hR2',hD2',Nat.add_assoc,append_assoc,length_map]|refine aI ?_|simp only[go_sem,hlen2,hlt',hlt2,hlt3,hlt4,hv2,hu,hx,encN,encR,gb1,gb2,hR2',hD2',Nat.add_assoc,append_assoc,length_map]
     exact⟨o,hlt,.base (by exact w0),by rw[hoS,if_pos rfl],by omega⟩
    ·repeat' first|refine sP ?_ ?_<;>intro hb<;>(try rw[hb])<;>(try simp only[bb]at hb)<;>try simp only[go_sem,hlen2,hlt',hlt2,hlt3,hlt4,hv2,hu,hx,q,encN,encR,gb1,gb2,hR2',hD2',Nat.add_assoc,append_assoc,length_map]|refine aI ?_|with_reducible refine cq h109 ?_|with_reducible refine cq h60b ?_|simp only[go_sem,hlen2,hlt',hlt2,hlt3,hlt4,hv2,hu,hx,q,encN,encR,gb1,gb2,hR2',hD2',Nat.add_assoc,append_assoc,length_map]
     exact⟨by simp only[length_append,length_cons,length_nil];omega,by simp only[length_append,length_cons];omega,by unfold I64;omega,o++32::(Lib.itoa xl++58::wordS false),hlt,.base (by exact w0),by rw[hoS,if_neg q];rfl,by simp only[length_append,length_cons];omega⟩
   ·by_cases q:(1:Int)=u
    ·subst q
     repeat' first|refine sP ?_ ?_<;>intro hb<;>(try rw[hb])<;>(try simp only[bb]at hb)<;>try simp only[go_sem,hlen2,hlt',hlt2,hlt3,hlt4,hv2,hu,hx,encN,encR,gb1,gb2,hR2',hD2',Nat.add_assoc,append_assoc,length_map]|refine aI ?_|simp only[go_sem,hlen2,hlt',hlt2,hlt3,hlt4,hv2,hu,hx,encN,encR,gb1,gb2,hR2',hD2',Nat.add_assoc,append_assoc,length_map]
     exact⟨o,hlt,.base (by exact w0),by rw[hoS,if_pos rfl],by omega⟩
    ·repeat' first|refine sP ?_ ?_<;>intro hb<;>(try rw[hb])<;>(try simp only[bb]at hb)<;>try simp only[go_sem,hlen2,hlt',hlt2,hlt3,hlt4,hv2,hu,hx,q,encN,encR,gb1,gb2,hR2',hD2',Nat.add_assoc,append_assoc,length_map]|refine aI ?_|with_reducible refine cq h109 ?_|with_reducible refine cq h60a ?_|simp only[go_sem,hlen2,hlt',hlt2,hlt3,hlt4,hv2,hu,hx,q,encN,encR,gb1,gb2,hR2',hD2',Nat.add_assoc,append_assoc,length_map]
     exact⟨by simp only[length_append,length_cons,length_nil];omega,by simp only[length_append,length_cons];omega,by unfold I64;omega,o++32::(Lib.itoa xl++58::wordS true),hlt,.base (by exact w0),by rw[hoS,if_neg q];rfl,by simp only[length_append,length_cons];omega⟩
  ·have hge': ¬(j:Int)<(holdF line t rs2).length:=by omega
   obtain rfl:j=(holdF line t rs2).length:=by omega
   rw[hB]at hoe
   repeat' first|refine sP ?_ ?_<;>intro hb<;>(try rw[hb])<;>(try simp only[bb]at hb)<;>try simp only[go_sem,hge']|refine aI ?_|simp only[go_sem,hge']
   exact⟨⟨[(8,.str o)],H2⟩,.base (by(first|exact wk_same (by simp only[go_sem,ic,pfx_self,T4.belowH_appE,dadd,dadd0,hlen2,hb2,hq3,hq5,hq50,Nat.le_add_right,Nat.le_refl,length_append,length_cons,length_nil])|(refine wk_drop ?_ ?_ ?_ ?_ ?_<;>simp only[go_sem,ic,pfx_self,T4.belowH_appE,dadd,dadd0,hlen2,hb2,hq3,hq5,hq50,Nat.le_add_right,Nat.le_refl,length_append,length_cons,length_nil]))),by rw[hoe];rfl,rfl⟩
theorem qN_vals(ws:List Str):qN ws=0∨qN ws=124∨qN ws=126∨qN ws=129∨qN ws=132∨qN ws=134∨qN ws=136∨qN ws=138∨qN ws=140∨qN ws=142:=by
 unfold qN
 split
 ·unfold qK
  repeat' split
  all_goals simp
 ·simp
theorem qK_132{k:Str}(h:qK k=132):k=[119,97,105,116,49]:=by
 unfold qK at h
 repeat' split at h
 all_goals first
  |assumption
  |simp at h
theorem qK_140{k:Str}(h:qK k=140):k=[108,101,102,116,49]:=by
 unfold qK at h
 repeat' split at h
 all_goals first
  |assumption
  |simp at h
theorem qN_one{ws:List Str}(hl:ws.length≤61)(h:qN ws=132∨qN ws=140): ∃n,numsX ws.tail=[n]:=by
 have hA:allNum ws.tail:=by
  by_cases q:allNum ws.tail
  ·exact q
  ·rw[show qN ws=0 from if_neg q]at h;simp at h
 rw[show qN ws=qK (key ws)from if_pos hA]at h
 have hX:(numsX ws.tail).length=ws.tail.length:=nums_len hA
 rcases h with h|h
 ·obtain⟨_,q⟩:=key_at (x:=[119,97,105]) (c:=116) (k:=1) hl (by decide) (by decide) (qK_132 h)
  rw[q]at hX
  exact list1 hX
 ·obtain⟨_,q⟩:=key_at (x:=[108,101,102]) (c:=116) (k:=1) hl (by decide) (by decide) (qK_140 h)
  rw[q]at hX
  exact list1 hX
theorem qE_0{ws:List Str}{n:Nat}(h:qN ws=n)(hn:n≠0)(h1: ¬(n=132∨n=140)):qE ws= .fn n []:=(qE_yes h hn h1).1
theorem qE_1{ws:List Str}{n:Nat}{x:Int}(h:qN ws=n)(hn:n≠0)(h1:n=132∨n=140)(hx:numsX ws.tail=[x]):qE ws= .fn n [.pp [lN [x]]]:=by rw[←hx];exact(qE_a h hn h1).1
abbrev SaidQ(n:Nat)(t:Town)(a:Str):Prop:=
 (n=124→a=if T4.sureG t.h 0=true then [49]else [48])∧(n=126→a=Lib.itoa (T4.bestG t.h (-1)).2)∧(n=129→a=tellL (T4.tolF t.h (2^t.h.ts.length)).1)
theorem SaidQ.of{n:Nat}{t:Town}{a:Str}(h1:n≠124)(h2:n≠126)(h3:n≠129):SaidQ n t a:=⟨fun h=>absurd h h1,fun h=>absurd h h2,fun h=>absurd h h3⟩
theorem bitsP_mem{s:Int}: ∀{n:Nat} {x:Int},x∈bitsP s n→0≤x∧x<n
 |0,x,h=>by simp[bitsP]at h
 |n+1,x,h=>by
  rw[bitsP,List.mem_append]at h
  rcases h with h|h
  ·have:=bitsP_mem h;omega
  ·split at h
   ·simp only[List.mem_singleton]at h;subst h;omega
   ·simp at h
theorem errT_0(s:Str):errT 0 s=s:=if_pos rfl
theorem told_small(h:House): ∀k:Nat,smallL (T4.tolF h k).1
 |0=>⟨by simp[T4.tolF],by simp[T4.tolF]⟩
 |k+1=>by
  rw[T4.tolF]
  split
  ·refine⟨by have:=bitsP_len k 4;simp only;omega,fun n hn=>?_⟩
   have:=bitsP_mem hn
   omega
  ·exact told_small h k
theorem best_small{h:House}(hk:okG h):I64 (T4.bestG h (-1)).2:=by
 have h3:=hk.2.2.1
 have:0≤(T4.bestG h (-1)).2∧(T4.bestG h (-1)).2≤5:=T4.runC_inv (I:=fun s:List (List Int)×Int=>0≤s.2∧s.2≤5) (fun s p hs=>by
  obtain⟨l0,l1⟩:=T4.lt_bd hk (rdy h (tim h p))
  have:=T4.pop_bd l0 l1
  unfold T4.bst T4.lateN
  split
  ·simp only;omega
  ·exact hs) _ _ (by simp only;omega)
 unfold I64;omega
theorem tellX{ws:List Str}(hl:ws.length≤61)(hq:qN ws≠0)(t:Town)(hv:vT t): ∃a,PC prog 62 [qE ws,hT t] (.str a)∧SaidQ (qN ws) t a:=by
 obtain⟨hk,hs⟩:=hv
 rcases qN_vals ws with h|h|h|h|h|h|h|h|h|h
 ·exact absurd h hq
 ·rw[qE_0 h (by decide) (by decide),h]
  refine⟨_,tell_n0 (c124 t hk) (by split<;>(unfold I64;omega)),fun _=>?_,fun h=>absurd h (by decide),fun h=>absurd h (by decide)⟩
  rw[errT_0]
  cases T4.sureG t.h 0
  ·show Lib.itoa ((0:Nat):Int)=_
   rw[itoa_1 (by decide)];rfl
  ·show Lib.itoa ((1:Nat):Int)=_
   rw[itoa_1 (by decide)];rfl
 ·rw[qE_0 h (by decide) (by decide),h]
  exact⟨_,tell_n0 (c126 t hk) (best_small hk),fun h=>absurd h (by decide),fun _=>errT_0 _,fun h=>absurd h (by decide)⟩
 ·rw[qE_0 h (by decide) (by decide),h]
  exact⟨_,tell_l0 (c129 t hk) (told_small t.h _),fun h=>absurd h (by decide),fun h=>absurd h (by decide),fun _=>errT_0 _⟩
 ·obtain⟨x,hx⟩:=qN_one hl (.inl h)
  rw[qE_1 h (by decide) (by decide) hx,h]
  obtain⟨v,e,hi,hp⟩:=T4.c133 t.h hk x
  exact⟨_,tell_n1 (c132 t x v e hp) hi,SaidQ.of (by decide) (by decide) (by decide)⟩
 ·rw[qE_0 h (by decide) (by decide),h]
  obtain⟨v,e,hi,hp⟩:=T4.c135 t.h hk
  exact⟨_,tell_n0 (c134 t v e hp) hi,SaidQ.of (by decide) (by decide) (by decide)⟩
 ·rw[qE_0 h (by decide) (by decide),h]
  refine⟨_,tell_n0 (c136 t) ?_,SaidQ.of (by decide) (by decide) (by decide)⟩
  unfold W2.rNew W2.ans
  have:=W2.neT_bounds hs t.s.wt.length
  have h3:=hs.1
  split
  ·simp only[W2.neN];unfold I64;omega
  ·unfold I64;simp
 ·rw[qE_0 h (by decide) (by decide),h]
  refine⟨_,tell_l0 (c138 t) ?_,SaidQ.of (by decide) (by decide) (by decide)⟩
  unfold W2.rWorlds W2.ans
  have h6:=hs.2.2.1
  split
  ·refine⟨by have:=selB_len (W2.gd t.s) t.s.ws.length;simp only[W2.wl];omega,fun n hn=>?_⟩
   obtain⟨i,hi,rfl,_⟩:=selB_mem.1 hn
   omega
  ·exact⟨by simp,by simp⟩
 ·obtain⟨x,hx⟩:=qN_one hl (.inr h)
  rw[qE_1 h (by decide) (by decide) hx,h]
  refine⟨_,tell_l1 (c140 t x) ?_,SaidQ.of (by decide) (by decide) (by decide)⟩
  unfold W2.rLeft
  by_cases q:W2.kn t.s (within x 0 (t.s.ms.length-1))=0
  ·rw[W2.ans_yes q]
   obtain⟨_,hi,_⟩:=W2.kn0.1 q
   unfold within at hi
   obtain⟨k,rfl⟩: ∃k:Nat,x=k:=⟨x.toNat,by omega⟩
   have hb:=W2.lo_bounds hs (W:=W2.aW t.s) (fun w hw=>W2.aW_mem hw) k (by omega)
   refine⟨by simp,fun n hn=>?_⟩
   simp only[List.mem_cons,List.not_mem_nil,or_false]at hn
   rcases hn with rfl|rfl
   ·show 0≤W2.loW t.s (W2.aW t.s) k∧_<_;have:=hb.2.1;exact⟨hb.1,by unfold W2.lo;omega⟩
   ·rw[W2.hi_def];have:=hb.2.2;omega
  ·rw[W2.ans_no q]
   refine⟨by simp,fun n hn=>?_⟩
   simp only[List.mem_cons,List.not_mem_nil,or_false,or_self]at hn
   subst hn;omega
 ·rw[qE_0 h (by decide) (by decide),h]
  refine⟨_,tell_n0 (c142 t) ?_,SaidQ.of (by decide) (by decide) (by decide)⟩
  have h5:=hs.2.1
  have:=W2.teT_bounds t.s t.s.ms.length
  by_cases q:W2.kn t.s True=0
  ·rw[W2.rTest_yes q];split<;>(unfold I64;simp only;omega)
  ·rw[W2.rTest_no q];unfold I64;simp
def sZ11b_f23(_:Nat):List (Nat×Nat):=[(0,0),(0,0),(0,0),(0,0),(0,0),(0,0),(0,0)]
attribute [go_sem] sZ11b_f23
noncomputable abbrev HD(t:Town)(rs:List Rec)(ans:List Str):Heap:=[.box 35 (cT t) false,.box 35 z35 false,.box 33 [.nilS] false,.box 66 (HDK t rs) false,.row 9 1 (strs ans) false,.row 72 2 (rs.map encR) false]
theorem hdB(t:Town)(rs:List Rec)(ans:List Str)(k:Nat):belowH (6+k) (HD t rs ans):=by
 (try(simp only[go_sem,belowH]))<;>(try simp)<;>(try omega)
theorem deskHD(t:Town)(rs:List Rec)(ans:List Str):Desk t rs 6 (HD t rs ans):=⟨rfl,Nat.le_refl _,hdB t rs ans,rfl,rfl⟩
theorem CV.cutM{α:Type}{P:Program}{nt m:Nat}{R:Exit→St→Prop}{st:St}{x0 x1 a b y:Code}(S2:α→St)(X:α→Prop)(h1:CV P nt m R [.code x0,.code x1,.code a,.back fun s=> ∃z,Wn m s (S2 z)∧X z] st)(h2: ∀z,X z→CV P nt m R [.code b,.code y] (S2 z)):CV P nt m R [.code (x0.seq (x1.seq ((a.seq b).seq y)))] st:=by
 refine CV.mk fun k' hr=>?_
 obtain⟨r,rfl,hr'⟩:=hr
 have hr':r=[]:=hr'
 subst hr'
 intro F E c w hF hE hg
 have h:=h1.of _ (rel_codes [x0,x1,a]) F E c w hF hE hg
 have h2': ∀s c w,(∃z,Wn m s (S2 z)∧X z)→Fl.Good nt E s c w→post P F nt E R [.code b,.code y] .normal c w:=fun s c w ⟨z,hs,hx⟩ hgs=>(h2 z hx).of _ ⟨_,rfl,_,rfl,rfl⟩ F E c w hF hE (hs.good hE hgs)
 refine wpIn_seq (wpIn_mono h fun e c w hp=>?_)
 cases e with
 |normal=>
  refine wpIn_seq (wpIn_mono hp fun e c w hp=>?_)
  cases e with
  |normal=>
   refine wpIn_seq (wpIn_seq (wpIn_mono hp fun e c w hp=>?_))
   cases e with
   |normal=>obtain⟨s,hs,hg⟩:=hp;exact wpIn_mono (h2' s c w hs hg) fun e c w hp=>by cases e<;>exact hp
   |_=>exact hp
  |_=>exact hp
 |_=>exact hp
theorem bub_R{b:Nat}{l:List AV}{rs:List Rec}:List.map (bubL b l) (rs.map encR)=rs.map encR:=by
 rw[map_map]
 refine List.map_congr_left fun r _=>?_
 obtain⟨rl,rr⟩:=r
 cases rr<;>simp[encR,rdV,bubL,bubV]
theorem bub_S{b:Nat}{l:List AV}{ss:List Str}:List.map (bubL b l) (strs ss)=strs ss:=by
 unfold strs
 rw[map_map]
 exact List.map_congr_left fun r _=>by simp[bubL,bubV]
theorem vpu{P:Program}{nt m:Nat}{R:Exit→St→Prop}{g:FuncId}{args args' a2:List AV}{dst:Option Nat}{rest:List COp}{k:List Iv}{env:Env}{H:Heap}{v:AV}(hc:PC P g a2 v)(hv:v.pure=true)(hp:AV.pureL args=true)(hf:frzL [] args a2)(h:vc P nt m R (.ops rest::k) ⟨eput env dst v,H⟩):vcP P nt m R g args args' dst rest k ⟨env,H⟩:=by
 have q:vcP P nt m R g args a2 dst rest k ⟨env,H⟩:=vcP_pure hc hv hp hf h
 unfold vcP at q ⊢;exact q
theorem nra:(([114,101,97,100,115]:Str)=[97,116])=False:=eq_false (by decide)
theorem nrl:(([114,101,97,100,115]:Str)=[108,105,110,101])=False:=eq_false (by decide)
theorem nal:(([97,116]:Str)=[108,105,110,101])=False:=eq_false (by decide)
theorem corR_len{rs:List Rec}{n line:Int}{e:Option (List Str)}:(corR rs n line e).length=rs.length:=by unfold corR;split<;>simp
def whatT:Str:=[119,104,97,116]
noncomputable def telA(ws:List Str)(t:Town):Str:=if h: ∃a,PC prog 62 [qE ws,hT t] (.str a)∧SaidQ (qN ws) t a then Classical.choose h else []
theorem telA_ok{ws:List Str}(hl:ws.length≤61)(hq:qN ws≠0)(t:Town)(hv:vT t):PC prog 62 [qE ws,hT t] (.str (telA ws t))∧SaidQ (qN ws) t (telA ws t):=by
 have h:=tellX hl hq t hv
 rw[telA,dif_pos h]
 exact Classical.choose_spec h
noncomputable def readsA(rs:List Rec)(n i:Int):Str:=if findI n i rs 0<0 then wrongT else match rs[(findI n i rs 0).toNat]? with
 |some ⟨_,some w⟩=>lineW w
 |_=>notT
noncomputable def atA(t:Town)(rs:List Rec)(i n:Int)(q:List Str):Str:=if qN q=0 then whatT else if n<0 then wrongT else if i<n then wrongT else telA q (townF n t rs)
noncomputable def doL(t:Town)(rs:List Rec)(i:Int)(ws:List Str)(n:Int):Str×List Rec:=
 if ws.getD 0 []=readsT then(if ws.length=2 then(readsA rs n i,rs)else(whatT,rs))
 else if ws.getD 0 []=atT then(if 2<ws.length then(atA t rs i n (ws.drop 2),rs)else(whatT,rs))
 else if ws.getD 0 []=lineT then
  if 3<ws.length then
   if ws.getD 2 []=isT then
    if opN (ws.drop 3)=0 then
     if ws.length=4 then(if ws.getD 3 []=notT then(corS t rs n i none,corR rs n i none)else(whatT,rs))else(whatT,rs)
    else(corS t rs n i (some (ws.drop 3)),corR rs n i (some (ws.drop 3)))
   else(whatT,rs)
  else(whatT,rs)
 else(whatT,rs)
noncomputable def doA(t:Town)(rs:List Rec)(i:Int)(ws:List Str):Str×List Rec:=
 if opN ws=0 then
  if qN ws=0 then
   if ws.length<2 then(whatT,rs)
   else if allNum [ws.getD 1 []]then doL t rs i ws ((numsX [ws.getD 1 []]).headD 0)else(whatT,rs)
  else(telA ws (townF i t rs),rs)
 else(wordS (onF (dW ws (townF i t rs)) (townF i t rs)).2,rs++[⟨i,some ws⟩])
set_option maxHeartbeats 8000000 in
theorem c23(t:Town)(hv:vT t)(rs:List Rec)(ans:List Str)(hn:rs.length≤60)(hok: ∀r,r∈rs→okR r)(hln:lineOk rs)(i:Int)(hi:0≤i∧i<60)(s:Str)(hls:s.length≤60)(ws:List Str)(hws:splitP s=ws):
  HCH prog 23 [.lp 3 0,.int .i64 i,.str s] (HD t rs ans) fun r H'=>r= .str (doA t rs i ws).1∧H'=HD t (doA t rs i ws).2 ans:=by
 have h57:=c57 s (by omega)
 rw[hws]at h57
 have hs:shortW ws:=fun w hw=>by have:=splitP_short s w (by rw[hws];exact hw);omega
 have hl:ws.length≤61:=by have:=splitP_len s;rw[hws]at this;omega
 have hne:ws≠[]:=by rw[←hws];exact splitP_ne s
 have h58:=c58 ws hs hl hne
 have h61:=c61 ws hs hl hne
 have hd:=deskHD t rs ans
 have h60a:PC prog 60 [.int .i64 1] (.str (wordS true)):=c60 true
 have h60b:PC prog 60 [.int .i64 0] (.str (wordS false)):=c60 false
 by_cases hop:opN ws=0
 ·have he:entV ws= .tup [.agg [.str [],.nilF],.bool false]:=by rw[entV,(eE_no hop).1,(eE_no hop).2]
  rw[he]at h58
  have hqp:(queV ws).pure=true:=by simp[AV.pure,AV.pureL,qE_pure]
  refine HCH.bodyN Tryz.func23 (by kernel_rfl) rfl (by simp[Tryz.f23]) ?_
  simp only[Tryz.f23]
  refine CV.run ?_
  repeat' first|refine sP ?_ ?_<;>intro hb<;>(try rw[hb])<;>(try simp only[bb]at hb)<;>try simp only[go_sem]|refine aI ?_|with_reducible refine dw sZ11b_f23 ?_|with_reducible refine cq h57 ?_|with_reducible refine cq h58 ?_|simp only[go_sem]
  have hd7:Desk t rs 7 (HD t rs ans++[.box 75 [.str [],.nilF] false]):=hd.app (c:=1) rfl (fun k=>by(try(simp only[go_sem,belowH]))<;>(try simp)<;>(try omega))
  by_cases hq:qN ws=0
  ·obtain⟨q1,q2⟩:=qE_no hq
   rw[queV,q1,q2]at h61
   refine vcP_pure h61 rfl rfl (by(simp only[go_sem])) ?_
   by_cases h2:(ws.length:Int)<2
   ·repeat' first|refine sP ?_ ?_<;>intro hb<;>(try rw[hb])<;>(try simp only[bb]at hb)<;>try simp only[go_sem,h2]|refine aI ?_|with_reducible refine dw sZ11b_f23 ?_|simp only[go_sem,h2]
    have e9:doA t rs i ws=(whatT,rs):=by rw[doA,if_pos hop,if_pos hq,if_pos (show ws.length<2 by omega)]
    exact⟨⟨[(6,.str (whatT))],HD t rs ans⟩,.base (by(first|exact wk_same (by simp only[go_sem,ic,whatT,pfx_self])|(refine wk_drop ?_ ?_ ?_ ?_ ?_<;>simp only[go_sem,ic,whatT,pfx_self]))),by rw[e9];rfl,by rw[e9]⟩
   ·obtain⟨w0,hw0⟩:=get_of (show 0<ws.length by omega)
    obtain⟨w1,hw1⟩:=get_of (show 1<ws.length by omega)
    have hwl:(0:Int)<ws.length:=by omega
    have hwl1:(1:Int)<ws.length:=by omega
    have h63:PC prog 63 [.lst false 1 [[.str w1]]] (numsV [w1]):=c63 [w1] (fun w hw=>by simp at hw;subst hw;exact hs _ (List.mem_of_getElem? hw1)) (by simp)
    have g0:ws.getD 0 []=w0:=by simp[List.getD,hw0]
    have g1:ws.getD 1 []=w1:=by simp[List.getD,hw1]
    by_cases hA:allNum [w1]
    ·obtain⟨n,hnum⟩: ∃n,numsX [w1]=[n]:=list1 (nums_len hA)
     rw[numsV,hnum,decide_eq_true hA]at h63
     have eL:doA t rs i ws=doL t rs i ws n:=by rw[doA,if_pos hop,if_pos hq,if_neg (show¬ws.length<2 by omega),g1,if_pos hA,hnum];rfl
     have hwd: ∀k,shortW (ws.drop k):=fun k w hw=>hs w (List.mem_of_mem_drop hw)
     have hld: ∀k,(ws.drop k).length≤61:=fun k=>by rw[length_drop];omega
     have hle2:(2:Int)≤ws.length:=by omega
     by_cases a1:w0=readsT
     ·subst a1
      by_cases a2:ws.length=2
      ·have a2':ws.length-2=0:=by omega
       repeat' first|refine sP ?_ ?_<;>intro hb<;>(try rw[hb])<;>(try simp only[bb]at hb)<;>try simp only[go_sem,h2,hw0,hw1,hwl,hwl1,hle2,encN,length_drop,readsT,a2']|refine aI ?_|with_reducible refine dw sZ11b_f23 ?_|with_reducible refine cq h63 ?_|simp only[go_sem,h2,hw0,hw1,hwl,hwl1,hle2,encN,length_drop,readsT,a2']
       refine vcP_here (c64 t rs hn n i _ 7 hd7) ?_
       rintro r H' ⟨rfl,hH⟩
       rw[hH]
       obtain⟨f1,f2,f3⟩:=findI_bd n i rs 0
       by_cases hf:findI n i rs 0<0
       ·rw[if_pos hf]
        repeat' first|refine sP ?_ ?_<;>intro hb<;>(try rw[hb])<;>(try simp only[bb]at hb)<;>try simp only[go_sem]|refine aI ?_|with_reducible refine dw sZ11b_f23 ?_|simp only[go_sem]
        have e9:doA t rs i ws=(wrongT,rs):=by rw[eL,doL,g0,if_pos rfl,if_pos a2,readsA,if_pos hf]
        exact⟨⟨[(6,.str (wrongT))],HD t rs ans⟩,.base (by(first|exact wk_same (by simp only[go_sem,ic,wrongT,pfx_self])|(refine wk_drop ?_ ?_ ?_ ?_ ?_<;>simp only[go_sem,ic,wrongT,pfx_self]))),by rw[e9];rfl,by rw[e9]⟩
       ·rw[if_neg hf]
        obtain⟨j,hj⟩: ∃j:Nat,findI n i rs 0=j:=⟨(findI n i rs 0).toNat,by omega⟩
        have hjl:j<rs.length:=by omega
        obtain⟨⟨rl,rr⟩,hr⟩:=get_of hjl
        rw[hj]
        cases rr with
        |none=>
         repeat' first|refine sP ?_ ?_<;>intro hb<;>(try rw[hb])<;>(try simp only[bb]at hb)<;>try simp only[go_sem,hjl,hr,encR,rdV,cons_append,nil_append,length_map]|refine aI ?_|with_reducible refine dw sZ11b_f23 ?_|simp only[go_sem,hjl,hr,encR,rdV,cons_append,nil_append,length_map]
         have e9:doA t rs i ws=(notT,rs):=by rw[eL,doL,g0,if_pos rfl,if_pos a2,readsA,if_neg hf,hj,Int.toNat_natCast,hr]
         exact⟨⟨[(6,.str (notT))],HD t rs ans⟩,.base (by(first|exact wk_same (by simp only[go_sem,ic,notT,pfx_self])|(refine wk_drop ?_ ?_ ?_ ?_ ?_<;>simp only[go_sem,ic,notT,pfx_self]))),by rw[e9];rfl,by rw[e9]⟩
        |some w=>
         have hce:cE w=[.str (lineW w),.fn (opN w) (caps w)]:=rfl
         repeat' first|refine sP ?_ ?_<;>intro hb<;>(try rw[hb])<;>(try simp only[bb]at hb)<;>try simp only[go_sem,hjl,hr,encR,rdV,hce,cons_append,nil_append,length_map]|refine aI ?_|with_reducible refine dw sZ11b_f23 ?_|simp only[go_sem,hjl,hr,encR,rdV,hce,cons_append,nil_append,length_map]
         have e9:doA t rs i ws=((lineW w),rs):=by rw[eL,doL,g0,if_pos rfl,if_pos a2,readsA,if_neg hf,hj,Int.toNat_natCast,hr]
         exact⟨⟨[(6,.str ((lineW w)))],HD t rs ans⟩,.base (by(first|exact wk_same (by simp only[go_sem,ic,pfx_self])|(refine wk_drop ?_ ?_ ?_ ?_ ?_<;>simp only[go_sem,ic,pfx_self]))),by rw[e9];rfl,by rw[e9]⟩
      ·have a2': ¬((ws.length-2:Nat):Int)=0:=by omega
       repeat' first|refine sP ?_ ?_<;>intro hb<;>(try rw[hb])<;>(try simp only[bb]at hb)<;>try simp only[go_sem,h2,hw0,hw1,hwl,hwl1,hle2,encN,length_drop,readsT,a2',nra,nrl]|refine aI ?_|with_reducible refine dw sZ11b_f23 ?_|with_reducible refine cq h63 ?_|simp only[go_sem,h2,hw0,hw1,hwl,hwl1,hle2,encN,length_drop,readsT,a2',nra,nrl]
       have e9:doA t rs i ws=(whatT,rs):=by rw[eL,doL,g0,if_pos rfl,if_neg a2]
       exact⟨⟨[(6,.str (whatT))],HD t rs ans⟩,.base (by(first|exact wk_same (by simp only[go_sem,ic,whatT,pfx_self])|(refine wk_drop ?_ ?_ ?_ ?_ ?_<;>simp only[go_sem,ic,whatT,pfx_self]))),by rw[e9];rfl,by rw[e9]⟩
     ·by_cases b1:w0=atT
      ·subst b1
       by_cases b2:2<ws.length
       ·have b2':(0:Int)<((ws.length-2:Nat):Int):=by omega
        have h61b:=c61 (ws.drop 2) (hwd 2) (hld 2) (by intro e;have:=congrArg List.length e;rw[length_drop,length_nil]at this;omega)
        repeat' first|refine sP ?_ ?_<;>intro hb<;>(try rw[hb])<;>(try simp only[bb]at hb)<;>try simp only[go_sem,h2,hw0,hw1,hwl,hwl1,hle2,encN,length_drop,atT,b2',na]|refine aI ?_|with_reducible refine dw sZ11b_f23 ?_|with_reducible refine cq h63 ?_|simp only[go_sem,h2,hw0,hw1,hwl,hwl1,hle2,encN,length_drop,atT,b2',na]
        by_cases q3:qN (ws.drop 2)=0
        ·obtain⟨q4,q5⟩:=qE_no q3
         rw[queV,q4,q5]at h61b
         refine vpu h61b rfl rfl (by(simp only[go_sem])) ?_
         repeat' first|refine sP ?_ ?_<;>intro hb<;>(try rw[hb])<;>(try simp only[bb]at hb)<;>try simp only[go_sem]|refine aI ?_|with_reducible refine dw sZ11b_f23 ?_|simp only[go_sem]
         have e9:doA t rs i ws=(whatT,rs):=by rw[eL,doL,g0,if_neg a1,if_pos rfl,if_pos b2,atA,if_pos q3]
         exact⟨⟨[(6,.str (whatT))],HD t rs ans⟩,.base (by(first|exact wk_same (by simp only[go_sem,ic,whatT,pfx_self])|(refine wk_drop ?_ ?_ ?_ ?_ ?_<;>simp only[go_sem,ic,whatT,pfx_self]))),by rw[e9];rfl,by rw[e9]⟩
        ·have q5:qB (ws.drop 2)=true:=by simp[qB,q3]
         have hqe:=qE_pure (ws.drop 2)
         have h62:=(telA_ok (hld 2) q3 (townF n t rs) (townF_ok n hv)).1
         rw[queV,q5]at h61b
         have hqp2:(AV.tup [qE (ws.drop 2),.bool true]).pure=true:=by simp[AV.pure,AV.pureL,hqe]
         refine vpu h61b hqp2 rfl (by(simp only[go_sem])) ?_
         generalize qE (ws.drop 2)=Q at h62 hqe
         by_cases n0:n<0
         ·repeat' first|refine sP ?_ ?_<;>intro hb<;>(try rw[hb])<;>(try simp only[bb]at hb)<;>try simp only[go_sem,hqe,n0]|refine aI ?_|with_reducible refine dw sZ11b_f23 ?_|simp only[go_sem,hqe,n0]
          have e9:doA t rs i ws=(wrongT,rs):=by rw[eL,doL,g0,if_neg a1,if_pos rfl,if_pos b2,atA,if_neg q3,if_pos n0]
          exact⟨⟨[(6,.str (wrongT))],HD t rs ans⟩,.base (by(first|exact wk_same (by simp only[go_sem,ic,wrongT,pfx_self])|(refine wk_drop ?_ ?_ ?_ ?_ ?_<;>simp only[go_sem,ic,wrongT,pfx_self]))),by rw[e9];rfl,by rw[e9]⟩
         ·by_cases n1:i<n
          ·repeat' first|refine sP ?_ ?_<;>intro hb<;>(try rw[hb])<;>(try simp only[bb]at hb)<;>try simp only[go_sem,hqe,n0,n1]|refine aI ?_|with_reducible refine dw sZ11b_f23 ?_|simp only[go_sem,hqe,n0,n1]
           have e9:doA t rs i ws=(wrongT,rs):=by rw[eL,doL,g0,if_neg a1,if_pos rfl,if_pos b2,atA,if_neg q3,if_neg n0,if_pos n1]
           exact⟨⟨[(6,.str (wrongT))],HD t rs ans⟩,.base (by(first|exact wk_same (by simp only[go_sem,ic,wrongT,pfx_self])|(refine wk_drop ?_ ?_ ?_ ?_ ?_<;>simp only[go_sem,ic,wrongT,pfx_self]))),by rw[e9];rfl,by rw[e9]⟩
          ·repeat' first|refine sP ?_ ?_<;>intro hb<;>(try rw[hb])<;>(try simp only[bb]at hb)<;>try simp only[go_sem,hqe,n0,n1]|refine aI ?_|with_reducible refine dw sZ11b_f23 ?_|simp only[go_sem,hqe,n0,n1]
           refine vcP_here (c26 t hv rs hn hok n _ 7 hd7) ?_
           rintro r H' ⟨rfl,hH⟩
           rw[hH]
           repeat' first|refine sP ?_ ?_<;>intro hb<;>(try rw[hb])<;>(try simp only[bb]at hb)<;>try simp only[go_sem,hqe,cons_append,nil_append,append_assoc]|refine aI ?_|with_reducible refine dw sZ11b_f23 ?_|simp only[go_sem,hqe,cons_append,nil_append,append_assoc]
           refine vpu h62 rfl (by(simp only[go_sem,hqe,AV.pureL])) ⟨frz_self _ _ hqe,by(simp only[go_sem])⟩ ?_
           repeat' first|refine sP ?_ ?_<;>intro hb<;>(try rw[hb])<;>(try simp only[bb]at hb)<;>try simp only[go_sem,hqe]|refine aI ?_|with_reducible refine dw sZ11b_f23 ?_|simp only[go_sem,hqe]
           have e9:doA t rs i ws=(telA (ws.drop 2) (townF n t rs),rs):=by rw[eL,doL,g0,if_neg a1,if_pos rfl,if_pos b2,atA,if_neg q3,if_neg n0,if_neg n1]
           exact⟨⟨[(6,.str (telA (ws.drop 2) (townF n t rs)))],HD t rs ans⟩,.base (by(first|exact wk_same (by simp only[go_sem,ic,pfx_self])|(refine wk_drop ?_ ?_ ?_ ?_ ?_<;>simp only[go_sem,ic,pfx_self]))),by rw[e9];rfl,by rw[e9]⟩
       ·have b2': ¬(0:Int)<((ws.length-2:Nat):Int):=by omega
        repeat' first|refine sP ?_ ?_<;>intro hb<;>(try rw[hb])<;>(try simp only[bb]at hb)<;>try simp only[go_sem,h2,hw0,hw1,hwl,hwl1,hle2,encN,length_drop,atT,b2',na,nal]|refine aI ?_|with_reducible refine dw sZ11b_f23 ?_|with_reducible refine cq h63 ?_|simp only[go_sem,h2,hw0,hw1,hwl,hwl1,hle2,encN,length_drop,atT,b2',na,nal]
        have e9:doA t rs i ws=(whatT,rs):=by rw[eL,doL,g0,if_neg a1,if_pos rfl,if_neg b2]
        exact⟨⟨[(6,.str (whatT))],HD t rs ans⟩,.base (by(first|exact wk_same (by simp only[go_sem,ic,whatT,pfx_self])|(refine wk_drop ?_ ?_ ?_ ?_ ?_<;>simp only[go_sem,ic,whatT,pfx_self]))),by rw[e9];rfl,by rw[e9]⟩
      ·by_cases d1:w0=lineT
       ·subst d1
        by_cases d2:3<ws.length
        ·have d2':(1:Int)<((ws.length-2:Nat):Int):=by omega
         have d2n:(1:Int)≤((ws.length-2:Nat):Int):=by omega
         have d20:(0:Int)<((ws.length-2:Nat):Int):=by omega
         obtain⟨w2,hw2⟩:=get_of (show 2<ws.length by omega)
         obtain⟨w3,hw3⟩:=get_of (show 3<ws.length by omega)
         have g2:ws.getD 2 []=w2:=by simp[List.getD,hw2]
         have g3:ws.getD 3 []=w3:=by simp[List.getD,hw3]
         have hw2':(ws.drop 2)[0]? =some w2:=by rw[List.getElem?_drop];exact hw2
         have hw3':(ws.drop 2)[1]? =some w3:=by rw[List.getElem?_drop];exact hw3
         have hdd:(ws.drop 2).drop 1=ws.drop 3:=by rw[List.drop_drop]
         by_cases d3:w2=isT
         ·subst d3
          have hs3:=hwd 3
          have hl3:=hld 3
          have hn3:ws.drop 3≠[]:=by intro e;have:=congrArg List.length e;rw[length_drop,length_nil]at this;omega
          have h58c:=c58 (ws.drop 3) hs3 hl3 hn3
          repeat' first|refine sP ?_ ?_<;>intro hb<;>(try rw[hb])<;>(try simp only[bb]at hb)<;>try simp only[go_sem,h2,hw0,hw1,hwl,hwl1,hle2,encN,length_drop,lineT,isT,d2',d2n,d20,hw2',hdd,nb,nc]|refine aI ?_|with_reducible refine dw sZ11b_f23 ?_|with_reducible refine cq h63 ?_|simp only[go_sem,h2,hw0,hw1,hwl,hwl1,hle2,encN,length_drop,lineT,isT,d2',d2n,d20,hw2',hdd,nb,nc]
          by_cases o3:opN (ws.drop 3)=0
          ·have he3:entV (ws.drop 3)= .tup [.agg [.str [],.nilF],.bool false]:=by rw[entV,(eE_no o3).1,(eE_no o3).2]
           rw[he3]at h58c
           refine vpu h58c rfl rfl (by(simp only[go_sem])) ?_
           by_cases d4:ws.length=4
           ·have d4':ws.length-2=2:=by omega
            by_cases d5:w3=notT
            ·subst d5
             repeat' first|refine sP ?_ ?_<;>intro hb<;>(try rw[hb])<;>(try simp only[bb]at hb)<;>try simp only[go_sem,h2,hw0,hw1,hwl,hwl1,hle2,encN,length_drop,notT,d4',hw3']|refine aI ?_|with_reducible refine dw sZ11b_f23 ?_|simp only[go_sem,h2,hw0,hw1,hwl,hwl1,hle2,encN,length_drop,notT,d4',hw3']
             have hd8:Desk t rs 8 (HD t rs ans++[.box 75 [.str [],.nilF] false,.box 75 [.str [],.nilF] false]):=hd.app (c:=2) rfl (fun k=>by(try(simp only[go_sem,belowH]))<;>(try simp)<;>(try omega))
             refine vcP_here (c65 t hv rs hn hok hln i n none (fun w h=>by cases h) _ 8 hd8) ?_
             rintro r H' ⟨rfl,hH⟩
             rw[hH]
             repeat' first|refine sP ?_ ?_<;>intro hb<;>(try rw[hb])<;>(try simp only[bb]at hb)<;>try simp only[go_sem]|refine aI ?_|with_reducible refine dw sZ11b_f23 ?_|simp only[go_sem]
             have e9:doA t rs i ws=(corS t rs n i none,(corR rs n i none)):=by rw[eL,doL,g0,if_neg a1,if_neg b1,if_pos rfl,if_pos d2,g2,if_pos rfl,if_pos o3,if_pos d4,g3,if_pos rfl]
             exact⟨⟨[(6,.str (corS t rs n i none))],HD t (corR rs n i none) ans⟩,.base (by(first|exact wk_same (by simp only[go_sem,ic,pfx_self,cons_append,nil_append,set_cons_succ,set_cons_zero,corR_len])|(refine wk_drop ?_ ?_ ?_ ?_ ?_<;>simp only[go_sem,ic,pfx_self,cons_append,nil_append,set_cons_succ,set_cons_zero,corR_len]))),by rw[e9];rfl,by rw[e9]⟩
            ·have d5': ¬w3=[110,111,116]:=d5
             repeat' first|refine sP ?_ ?_<;>intro hb<;>(try rw[hb])<;>(try simp only[bb]at hb)<;>try simp only[go_sem,h2,hw0,hw1,hwl,hwl1,hle2,encN,length_drop,d4',hw3',d5']|refine aI ?_|with_reducible refine dw sZ11b_f23 ?_|simp only[go_sem,h2,hw0,hw1,hwl,hwl1,hle2,encN,length_drop,d4',hw3',d5']
             have e9:doA t rs i ws=(whatT,rs):=by rw[eL,doL,g0,if_neg a1,if_neg b1,if_pos rfl,if_pos d2,g2,if_pos rfl,if_pos o3,if_pos d4,g3,if_neg d5]
             exact⟨⟨[(6,.str (whatT))],HD t rs ans⟩,.base (by(first|exact wk_same (by simp only[go_sem,ic,whatT,pfx_self])|(refine wk_drop ?_ ?_ ?_ ?_ ?_<;>simp only[go_sem,ic,whatT,pfx_self]))),by rw[e9];rfl,by rw[e9]⟩
           ·have d4': ¬((ws.length-2:Nat):Int)=2:=by omega
            repeat' first|refine sP ?_ ?_<;>intro hb<;>(try rw[hb])<;>(try simp only[bb]at hb)<;>try simp only[go_sem,h2,hw0,hw1,hwl,hwl1,hle2,encN,length_drop,d4']|refine aI ?_|with_reducible refine dw sZ11b_f23 ?_|simp only[go_sem,h2,hw0,hw1,hwl,hwl1,hle2,encN,length_drop,d4']
            have e9:doA t rs i ws=(whatT,rs):=by rw[eL,doL,g0,if_neg a1,if_neg b1,if_pos rfl,if_pos d2,g2,if_pos rfl,if_pos o3,if_neg d4]
            exact⟨⟨[(6,.str (whatT))],HD t rs ans⟩,.base (by(first|exact wk_same (by simp only[go_sem,ic,whatT,pfx_self])|(refine wk_drop ?_ ?_ ?_ ?_ ?_<;>simp only[go_sem,ic,whatT,pfx_self]))),by rw[e9];rfl,by rw[e9]⟩
          ·have he3:entV (ws.drop 3)= .tup [.agg [.str (lineW (ws.drop 3)),.fn (opN (ws.drop 3)) (caps (ws.drop 3))],.bool true]:=by
            have q1:eE (ws.drop 3)=cE (ws.drop 3):=if_neg o3
            have q2:oB (ws.drop 3)=true:=by simp[oB,o3]
            rw[entV,q1,q2];rfl
           have hcp:=caps_pure (ws.drop 3)
           have hwe:ws=lineT::w1::isT::ws.drop 3:=by
            match ws,hw0,hw1,hw2 with
            |a::b::c::r,e0,e1,e2=>simp at e0 e1 e2;subst e0 e1 e2;rfl
           rw[he3]at h58c
           have hce:cE (ws.drop 3)=[.str (lineW (ws.drop 3)),.fn (opN (ws.drop 3)) (caps (ws.drop 3))]:=rfl
           have hpu3:(AV.tup [.agg [.str (lineW (ws.drop 3)),.fn (opN (ws.drop 3)) (caps (ws.drop 3))],.bool true]).pure=true:=by simp[AV.pure,AV.pureL,hcp]
           refine vpu h58c hpu3 rfl (by(simp only[go_sem])) ?_
           repeat' first|refine sP ?_ ?_<;>intro hb<;>(try rw[hb])<;>(try simp only[bb]at hb)<;>try simp only[go_sem,hcp]|refine aI ?_|with_reducible refine dw sZ11b_f23 ?_|simp only[go_sem,hcp]
           refine vcP_bub (args':=[]) 7 rfl (by simp only[AV.pureL,AV.pure,hcp,Bool.and_self]) ?_
           (simp only[go_sem,bub_R,bub_S,map_cons,map_nil,set_cons_succ,set_cons_zero,drop_zero])
           have hd8:Desk t rs 8 (HD t rs ans++[.box 75 [.str [],.nilF] false,.box 75 [.str (lineW (ws.drop 3)),.fn (opN (ws.drop 3)) (caps (ws.drop 3))] true]):=hd.app (c:=2) rfl (fun k=>⟨rfl,belowL_pure _ _ (by simp only[AV.pureL,AV.pure,hcp,Bool.and_self]),trivial⟩)
           refine vcP_here (c65 t hv rs hn hok hln i n (some (ws.drop 3)) (fun w h=>by cases h;exact⟨o3,hl3⟩) _ 8 hd8) ?_
           rintro r H' ⟨rfl,hH⟩
           rw[hH]
           repeat' first|refine sP ?_ ?_<;>intro hb<;>(try rw[hb])<;>(try simp only[bb]at hb)<;>try simp only[go_sem]|refine aI ?_|with_reducible refine dw sZ11b_f23 ?_|simp only[go_sem]
           have e9:doA t rs i ws=(corS t rs n i (some (ws.drop 3)),(corR rs n i (some (ws.drop 3)))):=by rw[eL,doL,g0,if_neg a1,if_neg b1,if_pos rfl,if_pos d2,g2,if_pos rfl,if_neg o3]
           exact⟨⟨[(6,.str (corS t rs n i (some (ws.drop 3))))],HD t (corR rs n i (some (ws.drop 3))) ans⟩,.base (by(first|exact wk_same (by simp only[go_sem,ic,pfx_self,cons_append,nil_append,set_cons_succ,set_cons_zero,corR_len])|(refine wk_drop ?_ ?_ ?_ ?_ ?_<;>simp only[go_sem,ic,pfx_self,cons_append,nil_append,set_cons_succ,set_cons_zero,corR_len]))),by rw[e9];rfl,by rw[e9]⟩
         ·have d3': ¬w2=[105,115]:=d3
          repeat' first|refine sP ?_ ?_<;>intro hb<;>(try rw[hb])<;>(try simp only[bb]at hb)<;>try simp only[go_sem,h2,hw0,hw1,hwl,hwl1,hle2,encN,length_drop,lineT,d2',d2n,d20,hw2',d3',nb,nc]|refine aI ?_|with_reducible refine dw sZ11b_f23 ?_|with_reducible refine cq h63 ?_|simp only[go_sem,h2,hw0,hw1,hwl,hwl1,hle2,encN,length_drop,lineT,d2',d2n,d20,hw2',d3',nb,nc]
          have e9:doA t rs i ws=(whatT,rs):=by rw[eL,doL,g0,if_neg a1,if_neg b1,if_pos rfl,if_pos d2,g2,if_neg d3]
          exact⟨⟨[(6,.str (whatT))],HD t rs ans⟩,.base (by(first|exact wk_same (by simp only[go_sem,ic,whatT,pfx_self])|(refine wk_drop ?_ ?_ ?_ ?_ ?_<;>simp only[go_sem,ic,whatT,pfx_self]))),by rw[e9];rfl,by rw[e9]⟩
        ·have d2': ¬(1:Int)<((ws.length-2:Nat):Int):=by omega
         repeat' first|refine sP ?_ ?_<;>intro hb<;>(try rw[hb])<;>(try simp only[bb]at hb)<;>try simp only[go_sem,h2,hw0,hw1,hwl,hwl1,hle2,encN,length_drop,lineT,d2',nb,nc]|refine aI ?_|with_reducible refine dw sZ11b_f23 ?_|with_reducible refine cq h63 ?_|simp only[go_sem,h2,hw0,hw1,hwl,hwl1,hle2,encN,length_drop,lineT,d2',nb,nc]
         have e9:doA t rs i ws=(whatT,rs):=by rw[eL,doL,g0,if_neg a1,if_neg b1,if_pos rfl,if_neg d2]
         exact⟨⟨[(6,.str (whatT))],HD t rs ans⟩,.base (by(first|exact wk_same (by simp only[go_sem,ic,whatT,pfx_self])|(refine wk_drop ?_ ?_ ?_ ?_ ?_<;>simp only[go_sem,ic,whatT,pfx_self]))),by rw[e9];rfl,by rw[e9]⟩
       ·have a1': ¬w0=[114,101,97,100,115]:=a1
        have b1': ¬w0=[97,116]:=b1
        have d1': ¬w0=[108,105,110,101]:=d1
        repeat' first|refine sP ?_ ?_<;>intro hb<;>(try rw[hb])<;>(try simp only[bb]at hb)<;>try simp only[go_sem,h2,hw0,hw1,hwl,hwl1,hle2,encN,length_drop,a1',b1',d1']|refine aI ?_|with_reducible refine dw sZ11b_f23 ?_|with_reducible refine cq h63 ?_|simp only[go_sem,h2,hw0,hw1,hwl,hwl1,hle2,encN,length_drop,a1',b1',d1']
        have e9:doA t rs i ws=(whatT,rs):=by rw[eL,doL,g0,if_neg a1,if_neg b1,if_neg d1]
        exact⟨⟨[(6,.str (whatT))],HD t rs ans⟩,.base (by(first|exact wk_same (by simp only[go_sem,ic,whatT,pfx_self])|(refine wk_drop ?_ ?_ ?_ ?_ ?_<;>simp only[go_sem,ic,whatT,pfx_self]))),by rw[e9];rfl,by rw[e9]⟩
    ·rw[numsV,show numsX [w1]=[]from if_neg hA,decide_eq_false hA]at h63
     repeat' first|refine sP ?_ ?_<;>intro hb<;>(try rw[hb])<;>(try simp only[bb]at hb)<;>try simp only[go_sem,h2,hw1,hwl1]|refine aI ?_|with_reducible refine dw sZ11b_f23 ?_|with_reducible refine cq h63 ?_|simp only[go_sem,h2,hw1,hwl1]
     have e9:doA t rs i ws=(whatT,rs):=by rw[doA,if_pos hop,if_pos hq,if_neg (show¬ws.length<2 by omega),g1,if_neg hA]
     exact⟨⟨[(6,.str (whatT))],HD t rs ans⟩,.base (by(first|exact wk_same (by simp only[go_sem,ic,whatT,pfx_self])|(refine wk_drop ?_ ?_ ?_ ?_ ?_<;>simp only[go_sem,ic,whatT,pfx_self]))),by rw[e9];rfl,by rw[e9]⟩
  ·have q2:qB ws=true:=by simp[qB,hq]
   have hqe:=qE_pure ws
   have h62:=(telA_ok hl hq (townF i t rs) (townF_ok i hv)).1
   rw[queV,q2]at h61 hqp
   refine vcP_pure h61 hqp rfl (by(simp only[go_sem])) ?_
   generalize qE ws=Q at h62 hqe
   repeat' first|refine sP ?_ ?_<;>intro hb<;>(try rw[hb])<;>(try simp only[bb]at hb)<;>try simp only[go_sem,hqe]|refine aI ?_|with_reducible refine dw sZ11b_f23 ?_|simp only[go_sem,hqe]
   refine vcP_here (c26 t hv rs hn hok i _ 7 hd7) ?_
   rintro r H' ⟨rfl,hH⟩
   rw[hH]
   repeat' first|refine sP ?_ ?_<;>intro hb<;>(try rw[hb])<;>(try simp only[bb]at hb)<;>try simp only[go_sem,hqe,cons_append,nil_append,append_assoc]|refine aI ?_|with_reducible refine dw sZ11b_f23 ?_|simp only[go_sem,hqe,cons_append,nil_append,append_assoc]
   refine vpu h62 rfl (by(simp only[go_sem,hqe,AV.pureL])) ⟨frz_self _ _ hqe,by(simp only[go_sem])⟩ ?_
   repeat' first|refine sP ?_ ?_<;>intro hb<;>(try rw[hb])<;>(try simp only[bb]at hb)<;>try simp only[go_sem,hqe]|refine aI ?_|with_reducible refine dw sZ11b_f23 ?_|simp only[go_sem,hqe]
   have e9:doA t rs i ws=(telA ws (townF i t rs),rs):=by rw[doA,if_pos hop,if_neg hq]
   exact⟨⟨[(6,.str (telA ws (townF i t rs)))],HD t rs ans⟩,.base (by(first|exact wk_same (by simp only[go_sem,ic,pfx_self])|(refine wk_drop ?_ ?_ ?_ ?_ ?_<;>simp only[go_sem,ic,pfx_self]))),by rw[e9];rfl,by rw[e9]⟩
 ·have he:entV ws= .tup [.agg [.str (lineW ws),.fn (opN ws) (caps ws)],.bool true]:=by
   have:eE ws=cE ws:=if_neg hop
   have h2:oB ws=true:=by simp[oB,hop]
   rw[entV,this,h2];rfl
  rw[he]at h58
  have hcp:=caps_pure ws
  refine HCH.bodyN Tryz.func23 (by kernel_rfl) rfl (by simp[Tryz.f23]) ?_
  simp only[Tryz.f23]
  refine CV.cutM (fun _:Unit=>⟨[(9,.bool true),(8,.pp (cE ws)),(7,.lst true 1 (strs ws)),(0,.lp 3 0),(1,.int .i64 i)],HD t rs ans⟩) (fun _=>True) ?_ ?_
  ·refine CV.run ?_
   have hpu:(AV.tup [.agg [.str (lineW ws),.fn (opN ws) (caps ws)],.bool true]).pure=true:=by simp[AV.pure,AV.pureL,hcp]
   repeat' first|refine sP ?_ ?_<;>intro hb<;>(try rw[hb])<;>(try simp only[bb]at hb)<;>try simp only[go_sem]|refine aI ?_|with_reducible refine dw sZ11b_f23 ?_|with_reducible refine cq h57 ?_|simp only[go_sem]
   refine vcP_pure h58 hpu rfl (by(simp only[go_sem])) ?_
   repeat' first|refine sP ?_ ?_<;>intro hb<;>(try rw[hb])<;>(try simp only[bb]at hb)<;>try simp only[go_sem,hcp]|refine aI ?_|with_reducible refine dw sZ11b_f23 ?_|simp only[go_sem,hcp]
   refine⟨(),?_⟩
   refine .bub 6 rfl (by simp only[AV.pureL,AV.pure,hcp,Bool.and_self]) (.base ?_)
   have hce:cE ws=[.str (lineW ws),.fn (opN ws) (caps ws)]:=rfl
   (first|exact wk_same (by simp only[go_sem,ic,hce,bub_R,bub_S,map_cons,map_nil,set_cons_succ,set_cons_zero,drop_zero,pfx_self])|(refine wk_drop ?_ ?_ ?_ ?_ ?_<;>simp only[go_sem,ic,hce,bub_R,bub_S,map_cons,map_nil,set_cons_succ,set_cons_zero,drop_zero,pfx_self]))
  ·intro _ _
   refine CV.run ?_
   have h59:=c59 hop hl (townF i t rs) (townF_ok i hv)
   repeat' first|refine sP ?_ ?_<;>intro hb<;>(try rw[hb])<;>(try simp only[bb]at hb)<;>try simp only[go_sem]|refine aI ?_|with_reducible refine dw sZ11b_f23 ?_|simp only[go_sem]
   refine vcP_here (c26 t hv rs hn hok i _ 6 hd) ?_
   rintro r H' ⟨rfl,hH⟩
   rw[hH]
   have hap: ∀(A B:List Blk),A++B=A++B:=fun _ _=>rfl
   cases hb2:(onF (dW ws (townF i t rs)) (townF i t rs)).2<;>rw[hb2]at h59
   ·repeat' first|refine sP ?_ ?_<;>intro hb<;>(try rw[hb])<;>(try simp only[bb]at hb)<;>try simp only[go_sem,cons_append,nil_append,encR,rdV,length_map]|refine aI ?_|with_reducible refine dw sZ11b_f23 ?_|with_reducible refine cq h59 ?_|with_reducible refine cq h60b ?_|simp only[go_sem,cons_append,nil_append,encR,rdV,length_map]
    have e:(rs++[(⟨i,some ws⟩:Rec)]).map encR=rs.map encR++[[.int .i64 i,.pp (cE ws)]]:=by rw[List.map_append];rfl
    have e9:doA t rs i ws=((wordS false),(rs++[⟨i,some ws⟩])):=by rw[doA,if_neg hop,hb2]
    exact⟨⟨[(6,.str ((wordS false)))],HD t (rs++[⟨i,some ws⟩]) ans⟩,.base (by(first|exact wk_same (by simp only[go_sem,ic,e,length_append,length_cons,length_nil,pfx_self,T4.belowH_appE])|(refine wk_drop ?_ ?_ ?_ ?_ ?_<;>simp only[go_sem,ic,e,length_append,length_cons,length_nil,pfx_self,T4.belowH_appE]))),by rw[e9];rfl,by rw[e9]⟩
   ·repeat' first|refine sP ?_ ?_<;>intro hb<;>(try rw[hb])<;>(try simp only[bb]at hb)<;>try simp only[go_sem,cons_append,nil_append,encR,rdV,length_map]|refine aI ?_|with_reducible refine dw sZ11b_f23 ?_|with_reducible refine cq h59 ?_|with_reducible refine cq h60a ?_|simp only[go_sem,cons_append,nil_append,encR,rdV,length_map]
    have e:(rs++[(⟨i,some ws⟩:Rec)]).map encR=rs.map encR++[[.int .i64 i,.pp (cE ws)]]:=by rw[List.map_append];rfl
    have e9:doA t rs i ws=((wordS true),(rs++[⟨i,some ws⟩])):=by rw[doA,if_neg hop,hb2]
    exact⟨⟨[(6,.str ((wordS true)))],HD t (rs++[⟨i,some ws⟩]) ans⟩,.base (by(first|exact wk_same (by simp only[go_sem,ic,e,length_append,length_cons,length_nil,pfx_self,T4.belowH_appE])|(refine wk_drop ?_ ?_ ?_ ?_ ?_<;>simp only[go_sem,ic,e,length_append,length_cons,length_nil,pfx_self,T4.belowH_appE]))),by rw[e9];rfl,by rw[e9]⟩
end Go.Proofs.YtoadkchhimojlaaGreatDoor.OV
