/- A framework of general lemmas over the model (an abstract machine); no statement of the seat is proved here, and none has a condition. -/
import Derived.Test.YtoadkchhimojlaaGreatDoorFlB
import Derived.Sort.Grow
import Derived.Deep.Draws
import Derived.Lib.LaidTab
import Derived.Lib.ConvBytes
import Derived.Lib.SmallJoins
import Derived.Shelf.Abstract
import Derived.Carry
import Derived.Deep.Slices
import Derived.Deep.Fields
import Derived.JoinedOf
import Derived.Handed
import Derived.ProofKit
set_option linter.unusedSectionVars false
set_option linter.unusedSimpArgs false
set_option linter.unusedVariables false
set_option maxRecDepth 100000
open List(append_assoc append_nil cons_append flatten_cons getElem?_append_left getElem?_append_right getElem?_eq_getElem getElem?_eq_none getElem?_map getElem?_set length_cons length_map length_set length_take map_append map_map mem_map)
namespace Go.Fl
open Go.RowKit
section
variable {P:Program} {nt:Nat}
theorem dRun_sound{dst:Option Nat}{op:Op}{lo hi:Nat}{s:DS}{K:DS→Prop}(h:dRun P dst op lo hi s K): ∃v b s',RunR P dst op lo hi s v b s'∧K s':=by
 unfold dRun at h
 unfold RunR
 split at h
 ·rename_i hc
  split at h
  ·rename_i ty
   unfold dResA at h
   split at h
   ·rename_i cs hz
    exact⟨_,_,_,⟨ty,cs,rfl,hz,h.1,rfl,rfl,rfl⟩,h.2⟩
   ·exact h.elim
  ·exact h.elim
 ·rename_i hc
  have hC:dResC (evOp P s.env (s.HB++s.pb) op) dst s K→ ∃(v:AV) (_:Blk) (s':DS),((∃p v1 H1 H',p∧evOp P s.env (s.HB++s.pb) op= .ok p v1 H1∧Sld v1 H1 v H'∧s'=dPutC s dst v H')∨ ∃f args ats H',op= .call { callee:= .value f,args:=args,argTypes:=ats }∧ChCall P (evA s.env f) (args.toList.map (evA s.env)) (s.HB++s.pb) v H'∧s'=dPutC s dst v H')∧K s':=by
   intro h
   unfold dResC at h
   split at h
   ·rename_i p v H' he
    exact⟨v,.box 0 [] false,_,.inl ⟨p,v,H',H',h.1,he,.inl ⟨rfl,rfl⟩,rfl⟩,h.2⟩
   ·exact h.elim
  split at h
  ·split at h
   ·unfold dResS at h
    split at h
    ·rename_i p b n H' he
     unfold dResS2 at h
     split at h
     ·rename_i el sz es sl hb
      obtain⟨⟨hp,rfl,hpe⟩,h2⟩:=h
      exact⟨_,.box 0 [] false,_,.inl ⟨p,_,H',_,hp,he,.inr ⟨b,el,sz,es,sl,rfl,hb,hpe,rfl,rfl⟩,rfl⟩,h2⟩
     ·exact h.elim
    ·exact h.elim
   ·exact hC h
  ·rename_i f args ats
   unfold dCallT at h
   split at h
   ·rename_i g caps hg
    unfold dCallC at h
    obtain⟨v,Hx,h1,h2⟩:=h
    exact⟨v,.box 0 [] false,_,.inr ⟨_,_,_,Hx,rfl,.inl ⟨g,caps,hg,h1⟩,rfl⟩,h2⟩
   ·rename_i l hg
    unfold dCallY at h
    obtain⟨v,Hx,h1,h2⟩:=h
    exact⟨v,.box 0 [] false,_,.inr ⟨_,_,_,Hx,rfl,.inr ⟨l,hg,h1⟩,rfl⟩,h2⟩
   ·exact h.elim
  ·exact hC h
 ·rename_i hc
  split at h
  ·rename_i hf
   unfold dResH at h
   split at h
   ·rename_i p v H' he
    exact⟨v,.box 0 [] false,_,.inl ⟨fun H=> .inl ⟨p,h.1,evOp_hfree hf he H⟩,rfl⟩,h.2⟩
   ·exact h.elim
  ·split at h
   ·rename_i f args ats
    unfold dCallF at h
    split at h
    ·rename_i g caps hg
     unfold dCallP at h
     obtain⟨v,c,h1,h2⟩:=h
     exact⟨v,.box 0 [] false,_,.inr ⟨c,fun H hc=> .inr ⟨_,_,_,g,caps,rfl,hg,h1 H hc⟩,rfl⟩,h2⟩
    ·exact h.elim
   ·unfold dResF at h
    split at h
    ·rename_i p v H' he
     refine⟨v,.box 0 [] false,_,.inr ⟨_,fun H hc=>?_,rfl⟩,h.2⟩
     unfold sameR at hc
     split at hc
     ·rename_i p' v' H2 he2
      obtain⟨c1,rfl,rfl⟩:=hc
      exact .inl ⟨p',c1 h.1,he2⟩
     ·exact hc.elim
    ·exact h.elim
theorem vcD_sound{fin:DS→Prop}: ∀(l:List (COp×Nat×Nat)) (s:DS),vcD P nt fin l s→ ∃(st:Nat→DS) (val:Nat→AV) (bx:Nat→Blk),st 0=s∧(∀j x,l[j]? =some x→StepR P nt x (st j) (val j) (bx j) (st (j+1)))∧ckAll (st l.length).vs (st l.length).ck∧fin (st l.length)
 |[],s,h=>⟨fun _=>s,fun _=> .any,fun _=> .box 0 [] false,rfl,fun j x hx=>by simp at hx,h.1,h.2⟩
 |x::l,s,h=>by
  have key: ∃v b s',StepR P nt x s v b s'∧vcD P nt fin l s':=by
   obtain⟨hd,h⟩:=h
   unfold StepR
   split at h
   ·rename_i hg
    obtain⟨v,b,s',h1,h2⟩:=dRun_sound h
    exact⟨v,b,s',⟨hd,h1⟩,h2⟩
   ·rename_i gw hg
    have pass:dPass x.1.dst x.1.op s (vcD P nt fin l)→ ∃v s',PassR x.1.dst x.1.op s v s'∧vcD P nt fin l s':=by
     intro h2
     unfold dPass at h2
     split at h2
     ·rename_i hc
      exact⟨_,_,⟨rfl,by rw[hc]⟩,h2⟩
     ·rename_i hc
      refine⟨_,_,⟨rfl,?_⟩,h2⟩
      split
      ·exact absurd ‹_› hc
      ·rfl
    unfold vcDG at h
    split at h
    ·rename_i t ht
     by_cases hw:t=gw.2
     ·obtain⟨v,b,s',h1,h2⟩:=dRun_sound (h.1 hw)
      exact⟨v,b,s',⟨hd,true,by simp[ht,gres,hw],fun _=>h1,fun e=>by cases e⟩,h2⟩
     ·obtain⟨v,s',h1,h2⟩:=pass (h.2 hw)
      exact⟨v,.box 0 [] false,s',⟨hd,false,by simp[ht,gres,hw],fun e=>(by cases e),fun _=>h1⟩,h2⟩
    ·rename_i ht
     obtain⟨v,s',h1,h2⟩:=pass h
     exact⟨v,.box 0 [] false,s',⟨hd,false,by rw[ht];rfl,fun e=>(by cases e),fun _=>h1⟩,h2⟩
    ·exact h.elim
  obtain⟨v,b,s',h1,h2⟩:=key
  obtain⟨st,val,bx,e0,e1,e2,e3⟩:=vcD_sound l s' h2
  refine⟨fun j=>match j with|0=>s|j+1=>st j,fun j=>match j with|0=>v|j+1=>val j,fun j=>match j with|0=>b|j+1=>bx j,rfl,?_,e2,e3⟩
  intro j y hy
  cases j with
  |zero=>simp at hy;subst hy;simp only[e0];exact h1
  |succ j=>simp at hy;exact e1 j y hy
theorem pb_none{ops:Array Oper}{bx:Nat→Blk}{c:Nat}: ∀m,cNo ops m<c→pb ops bx c m=[]
 |0,_=>rfl
 |m+1,h=>by
  have:=cNo_mono (ops:=ops) (i:=m) (j:=m+1) (by omega)
  simp only[pb]
  rw[if_neg (fun hh=>by omega)]
  exact pb_none m (by omega)
theorem allH_get{c:Heap→Prop}: ∀{l:List Heap} {i:Nat} {H:Heap},allH c l→l[i]? =some H→c H
 |[],_,_,_,h=>by simp at h
 |x::l,0,H,ha,h=>by simp at h;subst h;exact ha.1
 |x::l,i+1,H,ha,h=>allH_get ha.2 (by simpa using h)
theorem ckAll_get{vs:List Heap}{lo hi:Nat}{c:Heap→Prop}: ∀{l:List (Nat×Nat×(Heap→Prop))},ckAll vs l→(lo,hi,c)∈l→ ∀k,lo≤k→k≤hi→ ∀H,vs[k]? =some H→c H
 |[],_,h,_,_,_,_,_=>by simp at h
 |x::l,ha,h,k,h1,h2,H,hH=>by
  rcases List.mem_cons.1 h with rfl|h
  ·refine allH_get (i:=k-lo) ha.1 ?_
   rw[List.getElem?_take,if_pos (by show k-lo<hi+1-lo;omega),List.getElem?_drop,show lo+(k-lo)=k from by omega]
   exact hH
  ·exact ckAll_get ha.2 h k h1 h2 H hH
theorem sol_of{ops:Array Oper}{sp:List (Nat×Nat)}{env0:Env}{H0:Heap}(hsp:sp.length=ops.size){st:Nat→DS}{val:Nat→AV}{bx:Nat→Blk}(h0:st 0=⟨env0,H0,[],[H0],[]⟩)
  (hst: ∀j x,((cops ops).zip sp)[j]? =some x→StepR P nt x (st j) (val j) (bx j) (st (j+1))) (hck:ckAll (st ops.size).vs (st ops.size).ck) (hal: ∀(j:Nat) (o:Oper),ops[j]? =some o→clsOp o.op= .alloc→o.guard=none):
  ∃HC:Nat→Heap,Sol P nt ops sp env0 H0 HC val bx∧(st ops.size).env=envL ops (fun _=>true) val env0 ops.size∧(st ops.size).HB=HC (cNo ops ops.size)∧(st ops.size).pb=pb ops bx (cNo ops ops.size) ops.size:=by
 have hx: ∀j o,ops[j]? =some o→((cops ops).zip sp)[j]? =some (copOf ops o,sp.getD j (0,ops.size)):=by
  intro j o ho
  have hj:=(Array.getElem?_eq_some_iff.1 ho).1
  have h1:(cops ops)[j]? =some (copOf ops o):=by simp[cops,ho]
  have h2:sp[j]? =some (sp.getD j (0,ops.size)):=by rw[List.getD_eq_getElem?_getD,getElem?_eq_getElem (by omega)];rfl
  rw[List.getElem?_zip_eq_some];exact⟨h1,h2⟩
 have hclso: ∀j (o:Oper),ops[j]? =some o→clsAt ops j=clsOp o.op:=fun j o ho=>clsAt_of ho
 have shape: ∀j o,ops[j]? =some o→(st (j+1)).env=eput (st j).env o.dst (val j)∧
   (clsOp o.op= .alloc→o.guard=none→(st (j+1)).HB=(st j).HB∧(st (j+1)).pb=(st j).pb++[bx j]∧(st (j+1)).vs=(st j).vs∧(st (j+1)).ck=(st j).ck)∧
   (clsOp o.op= .chain→(st (j+1)).pb=[]∧(st (j+1)).vs=(st j).vs++[(st (j+1)).HB]∧(st (j+1)).ck=(st j).ck)∧
   (clsOp o.op= .free→(st (j+1)).HB=(st j).HB∧(st (j+1)).pb=(st j).pb∧(st (j+1)).vs=(st j).vs∧ ∃t,(st (j+1)).ck=(st j).ck++t):=by
  intro j o ho
  obtain⟨hd,hr⟩:=hst j _ (hx j o ho)
  have runs:RunR P o.dst o.op (sp.getD j (0,ops.size)).1 (sp.getD j (0,ops.size)).2 (st j) (val j) (bx j) (st (j+1))→(st (j+1)).env=eput (st j).env o.dst (val j)∧
   (clsOp o.op= .alloc→o.guard=none→(st (j+1)).HB=(st j).HB∧(st (j+1)).pb=(st j).pb++[bx j]∧(st (j+1)).vs=(st j).vs∧(st (j+1)).ck=(st j).ck)∧
   (clsOp o.op= .chain→(st (j+1)).pb=[]∧(st (j+1)).vs=(st j).vs++[(st (j+1)).HB]∧(st (j+1)).ck=(st j).ck)∧
   (clsOp o.op= .free→(st (j+1)).HB=(st j).HB∧(st (j+1)).pb=(st j).pb∧(st (j+1)).vs=(st j).vs∧ ∃t,(st (j+1)).ck=(st j).ck++t):=by
   intro hr
   unfold RunR at hr
   split at hr
   ·rename_i hc
    obtain⟨ty,cs,_,_,_,_,e,e2⟩:=hr
    rw[e2,hc]
    exact⟨by rw[e];rfl,fun _ _=>⟨rfl,rfl,rfl,rfl⟩,fun h=>(by cases h),fun h=>(by cases h)⟩
   ·rename_i hc
    rcases hr with⟨p,v1,H1,H',_,_,_,e2⟩|⟨_,_,_,H',_,_,e2⟩
    all_goals
     rw[e2,hc]
     exact⟨rfl,fun h=>(by cases h),fun _=>⟨rfl,rfl,rfl⟩,fun h=>(by cases h)⟩
   ·rename_i hc
    rcases hr with⟨_,e2⟩|⟨c,_,e2⟩
    ·rw[e2,hc]
     exact⟨rfl,fun h=>(by cases h),fun h=>(by cases h),fun _=>⟨rfl,rfl,rfl,[],by simp[dPutE]⟩⟩
    ·rw[e2,hc]
     exact⟨rfl,fun h=>(by cases h),fun h=>(by cases h),fun _=>⟨rfl,rfl,rfl,_,rfl⟩⟩
  cases hg:o.guard with
  |none=>
   simp only[copOf,hg,Option.map_none]at hr
   have:=runs hr
   rw[hg]at this
   exact this
  |some g=>
   simp only[copOf,hg,Option.map_some]at hr
   obtain⟨t,h1,h2,h3⟩:=hr
   cases ht:t with
   |true=>
    have:=runs (h2 ht)
    rw[hg]at this
    exact this
   |false=>
    obtain⟨e1,e2⟩:=h3 ht
    rw[e2,e1]
    refine⟨by split<;>rfl,fun _ h=>(by cases h),fun hc=>?_,fun hc=>?_⟩
    ·rw[hc];exact⟨rfl,rfl,rfl⟩
    ·rw[hc];exact⟨rfl,rfl,rfl,[],by simp[dPutE]⟩
 have get: ∀j,j<ops.size→ops[j]? =some ops[j]! :=fun j hj=>by rw[Array.getElem?_eq_getElem hj,getElem!_pos ops j hj]
 have henv: ∀j,j≤ops.size→(st j).env=envL ops (fun _=>true) val env0 j:=by
  intro j
  induction j with
  |zero=>intro _;rw[h0];rfl
  |succ j ih=>
   intro hj
   have ho:=get j (by omega)
   rw[(shape j _ ho).1,ih (by omega)]
   simp only[envL,if_true,dstAt_of ho]
 have hvs: ∀j,j<ops.size→ ∃t,(st (j+1)).vs=(st j).vs++t:=by
  intro j hj
  have ho:=get j hj
  obtain⟨_,s1,s2,s3⟩:=shape j _ ho
  cases hc:clsOp ops[j]!.op with
  |alloc=>exact⟨[],by rw[(s1 hc (hal j _ ho hc)).2.2.1];simp⟩
  |chain=>exact⟨_,(s2 hc).2.1⟩
  |free=>exact⟨[],by rw[(s3 hc).2.2.1];simp⟩
 have hcks: ∀j,j<ops.size→ ∃t,(st (j+1)).ck=(st j).ck++t:=by
  intro j hj
  have ho:=get j hj
  obtain⟨_,s1,s2,s3⟩:=shape j _ ho
  cases hc:clsOp ops[j]!.op with
  |alloc=>exact⟨[],by rw[(s1 hc (hal j _ ho hc)).2.2.2];simp⟩
  |chain=>exact⟨[],by rw[(s2 hc).2.2];simp⟩
  |free=>exact(s3 hc).2.2.2
 have pre: ∀d j,j+d≤ops.size→(∃t,(st (j+d)).vs=(st j).vs++t)∧ ∃t,(st (j+d)).ck=(st j).ck++t:=by
  intro d
  induction d with
  |zero=>intro j _;exact⟨⟨[],by simp⟩,⟨[],by simp⟩⟩
  |succ d ih=>
   intro j hj
   obtain⟨⟨t,h1⟩,t2,h2⟩:=ih j (by omega)
   obtain⟨u,h3⟩:=hvs (j+d) (by omega)
   obtain⟨u2,h4⟩:=hcks (j+d) (by omega)
   exact⟨⟨t++u,by rw[←Nat.add_assoc,h3,h1,append_assoc]⟩,⟨t2++u2,by rw[←Nat.add_assoc,h4,h2,append_assoc]⟩⟩
 have hlast: ∀j,j≤ops.size→(st j).vs.length=cNo ops j+1∧(st j).vs[cNo ops j]? =some (st j).HB:=by
  intro j
  induction j with
  |zero=>intro _;rw[h0];exact⟨rfl,rfl⟩
  |succ j ih=>
   intro hj
   have ho:=get j (by omega)
   obtain⟨_,s1,s2,s3⟩:=shape j _ ho
   obtain⟨i1,i2⟩:=ih (by omega)
   cases hc:clsOp ops[j]!.op with
   |alloc=>
    obtain⟨q1,q2,q3,q4⟩:=s1 hc (hal j _ ho hc)
    have:cNo ops (j+1)=cNo ops j:=by simp[cNo,clsAt_of ho,hc]
    rw[this,q1,q3];exact⟨i1,i2⟩
   |chain=>
    obtain⟨q1,q2,q3⟩:=s2 hc
    have:cNo ops (j+1)=cNo ops j+1:=by simp[cNo,clsAt_of ho,hc]
    rw[this,q2]
    refine⟨by simp[i1],?_⟩
    rw[←i1];simp
   |free=>
    obtain⟨q1,q2,q3,q4⟩:=s3 hc
    have:cNo ops (j+1)=cNo ops j:=by simp[cNo,clsAt_of ho,hc]
    rw[this,q1,q3];exact⟨i1,i2⟩
 have hHB: ∀j,j≤ops.size→(st ops.size).vs[cNo ops j]? =some (st j).HB:=by
  intro j hj
  obtain⟨t,h1⟩:=(pre (ops.size-j) j (by omega)).1
  rw[show j+(ops.size-j)=ops.size from by omega]at h1
  obtain⟨l1,l2⟩:=hlast j hj
  rw[h1,getElem?_append_left (by omega)];exact l2
 have hpb: ∀j,j≤ops.size→(st j).pb=pb ops bx (cNo ops j) j:=by
  intro j
  induction j with
  |zero=>intro _;rw[h0];rfl
  |succ j ih=>
   intro hj
   have ho:=get j (by omega)
   obtain⟨_,s1,s2,s3⟩:=shape j _ ho
   have ih:=ih (by omega)
   cases hc:clsOp ops[j]!.op with
   |alloc=>
    obtain⟨q1,q2,q3,q4⟩:=s1 hc (hal j _ ho hc)
    have:cNo ops (j+1)=cNo ops j:=by simp[cNo,clsAt_of ho,hc]
    rw[this,q2,ih]
    simp[pb,clsAt_of ho,hc]
   |chain=>
    obtain⟨q1,q2,q3⟩:=s2 hc
    have:cNo ops (j+1)=cNo ops j+1:=by simp[cNo,clsAt_of ho,hc]
    rw[this,q1]
    simp only[pb,clsAt_of ho,hc]
    simp only[reduceCtorEq,false_and,if_false]
    rw[pb_none _ (by omega)]
   |free=>
    obtain⟨q1,q2,q3,q4⟩:=s3 hc
    have:cNo ops (j+1)=cNo ops j:=by simp[cNo,clsAt_of ho,hc]
    rw[this,q2,ih]
    simp[pb,clsAt_of ho,hc]
 let HC:Nat→Heap:=fun k=>((st ops.size).vs[k]?).getD []
 have hHC: ∀j,j≤ops.size→HC (cNo ops j)=(st j).HB:=fun j hj=>by simp only[HC,hHB j hj,Option.getD_some]
 have hnx: ∀j o,ops[j]? =some o→clsOp o.op= .chain→HC (cNo ops j+1)=(st (j+1)).HB:=by
  intro j o ho hc
  have hj:=(Array.getElem?_eq_some_iff.1 ho).1
  have:cNo ops (j+1)=cNo ops j+1:=by simp[cNo,clsAt_of ho,hc]
  rw[←this];exact hHC (j+1) (by omega)
 refine⟨HC,⟨?_,?_,?_,?_,?_⟩,henv _ (Nat.le_refl _),(hHC _ (Nat.le_refl _)).symm,hpb _ (Nat.le_refl _)⟩
 ·have:=hHC 0 (Nat.zero_le _)
  rw[h0]at this;exact this
 ·intro i o ho
  exact(hst i _ (hx i o ho)).1
 ·intro i o g w ho hg
  have hi:=(Array.getElem?_eq_some_iff.1 ho).1
  have hr:=(hst i _ (hx i o ho)).2
  simp only[copOf,hg,Option.map_some]at hr
  obtain⟨t,h1,_⟩:=hr
  rw[henv i (by omega)]at h1
  exact⟨t,h1⟩
 ·intro i o g w ho hg hb
  have hi:=(Array.getElem?_eq_some_iff.1 ho).1
  have hr:=(hst i _ (hx i o ho)).2
  simp only[copOf,hg,Option.map_some]at hr
  obtain⟨t,h1,h2,h3⟩:=hr
  rw[henv i (by omega)]at h1
  have:t=false:=by
   have:=h1.symm.trans hb
   simpa using this
  obtain⟨e1,e2⟩:=h3 this
  refine⟨e1,fun hc=>?_⟩
  rw[hnx i o ho hc,e2,hc,hHC i (by omega),← hpb i (by omega)]
  rfl
 ·intro i o ho hw
  have hi:=(Array.getElem?_eq_some_iff.1 ho).1
  have hr:=(hst i _ (hx i o ho)).2
  have hrun:RunR P o.dst o.op (sp.getD i (0,ops.size)).1 (sp.getD i (0,ops.size)).2 (st i) (val i) (bx i) (st (i+1)):=by
   cases hg:o.guard with
   |none=>simp only[copOf,hg,Option.map_none]at hr;exact hr
   |some g=>
    simp only[copOf,hg,Option.map_some]at hr
    obtain⟨t,h1,h2,h3⟩:=hr
    refine h2 ?_
    have:=hw g.1 g.2 hg
    rw[henv i (by omega)]at h1
    have:=h1.symm.trans this
    simpa using this
  unfold RunR at hrun
  cases hc:clsOp o.op with
  |alloc=>
   rw[hc]at hrun
   obtain⟨ty,cs,e1,e2,e3,e4,e5,_⟩:=hrun
   exact⟨ty,cs,e1,e2,e3,e4,by rw[e5,hHC i (by omega),hpb i (by omega)]⟩
  |chain=>
   rw[hc]at hrun
   rcases hrun with⟨p,v1,H1,H',hp,he,hsl,e⟩|⟨f,args,ats,H',e1,e3,e⟩
   ·refine .inl ⟨p,v1,H1,hp,?_,?_⟩
    ·rw[←henv i (by omega),hHC i (by omega),← hpb i (by omega),he]
    ·rw[hnx i o ho hc,e];exact hsl
   ·refine .inr ⟨f,args,ats,e1,?_⟩
    rw[←henv i (by omega),hHC i (by omega),← hpb i (by omega),hnx i o ho hc,e];exact e3
  |free=>
   rw[hc]at hrun
   intro k k1 k2 k3
   rw[←henv i (by omega)]
   rcases hrun with⟨h1,_⟩|⟨c,h1,e⟩
   ·exact h1 _
   ·refine h1 _ ?_
    have hmem:((sp.getD i (0,ops.size)).1,(sp.getD i (0,ops.size)).2,c)∈(st ops.size).ck:=by
     obtain⟨t,ht⟩:=(pre (ops.size-(i+1)) (i+1) (by omega)).2
     rw[show i+1+(ops.size-(i+1))=ops.size from by omega]at ht
     rw[ht,e];simp[dPutF]
    refine ckAll_get hck hmem k k1 k2 _ ?_
    have hl:=(hlast ops.size (Nat.le_refl _)).1
    simp only[HC]
    rw[getElem?_eq_getElem (by omega)];rfl
theorem CV.draw{m:Nat}{R:Exit→St→Prop}{k:List Iv}{id:Nat}{ops:Array Oper}{env0:Env}{H0:Heap}(sp:List (Nat×Nat))(hm:P.follows .mixedOrders=true)(hsp:sp.length=ops.size)(hok:drawOk ops sp=true)
  (h:vcD P nt (fun s=>vc P nt m R k ⟨s.env,s.HB++s.pb⟩) ((cops ops).zip sp) ⟨env0,H0,[],[H0],[]⟩):CV P nt m R (.code (.region id ops true)::k) ⟨env0,H0⟩:=by
 refine CV.mk fun k' hr=>?_
 obtain⟨r,rfl,hr'⟩:=hr
 obtain⟨st,val,bx,h0,h1,h2,h3⟩:=vcD_sound _ _ h
 have hl:((cops ops).zip sp).length=ops.size:=by simp[cops,hsp]
 rw[hl]at h2 h3
 obtain⟨HC,q1,q2,q3,q4⟩:=sol_of (bx:=bx) (val:=val) hsp h0 h1 h2 (fun j o ho hc=>((drawOk_spec hok ho).alloc hc).1)
 refine VC.draw hm hok q1 ?_
 rw[←q2,← q3,← q4]
 exact(CV.run h3).of _ hr'
end
theorem dRun_move{P:Program}{nt:Nat}{dst:Option Nat}{lo hi:Nat}{s:DS}{K:DS→Prop}{x}:dRun P dst (.move x) lo hi s K=dResH (evOp P s.env s.HB (.move x)) dst s K:=rfl
theorem dRun_assign{P:Program}{nt:Nat}{dst:Option Nat}{lo hi:Nat}{s:DS}{K:DS→Prop}{x}:dRun P dst (.assign x) lo hi s K=dResH (evOp P s.env s.HB (.assign x)) dst s K:=rfl
theorem dRun_pick{P:Program}{nt:Nat}{dst:Option Nat}{lo hi:Nat}{s:DS}{K:DS→Prop}{a b c}:dRun P dst (.pick a b c) lo hi s K=dResH (evOp P s.env s.HB (.pick a b c)) dst s K:=rfl
theorem dRun_unOp{P:Program}{nt:Nat}{dst:Option Nat}{lo hi:Nat}{s:DS}{K:DS→Prop}{o t x}:dRun P dst (.unOp o t x) lo hi s K=dResH (evOp P s.env s.HB (.unOp o t x)) dst s K:=rfl
theorem dRun_binOp{P:Program}{nt:Nat}{dst:Option Nat}{lo hi:Nat}{s:DS}{K:DS→Prop}{o t x y u}:dRun P dst (.binOp o t x y u) lo hi s K=dResH (evOp P s.env s.HB (.binOp o t x y u)) dst s K:=rfl
theorem dRun_extract{P:Program}{nt:Nat}{dst:Option Nat}{lo hi:Nat}{s:DS}{K:DS→Prop}{x i}:dRun P dst (.extract x i) lo hi s K=dResH (evOp P s.env s.HB (.extract x i)) dst s K:=rfl
theorem dRun_field{P:Program}{nt:Nat}{dst:Option Nat}{lo hi:Nat}{s:DS}{K:DS→Prop}{t x f}:dRun P dst (.field t x f) lo hi s K=dResH (evOp P s.env s.HB (.field t x f)) dst s K:=rfl
theorem dRun_build{P:Program}{nt:Nat}{dst:Option Nat}{lo hi:Nat}{s:DS}{K:DS→Prop}{t p}:dRun P dst (.build t p) lo hi s K=dResH (evOp P s.env s.HB (.build t p)) dst s K:=rfl
theorem dRun_nilCheck{P:Program}{nt:Nat}{dst:Option Nat}{lo hi:Nat}{s:DS}{K:DS→Prop}{x}:dRun P dst (.nilCheck x) lo hi s K=dResH (evOp P s.env s.HB (.nilCheck x)) dst s K:=rfl
theorem dRun_makeFunc{P:Program}{nt:Nat}{dst:Option Nat}{lo hi:Nat}{s:DS}{K:DS→Prop}{f a c}:dRun P dst (.makeFunc f a c) lo hi s K=dResH (evOp P s.env s.HB (.makeFunc f a c)) dst s K:=rfl
theorem dRun_fieldAddr{P:Program}{nt:Nat}{dst:Option Nat}{lo hi:Nat}{s:DS}{K:DS→Prop}{t x f}:dRun P dst (.fieldAddr t x f) lo hi s K=dResH (evOp P s.env s.HB (.fieldAddr t x f)) dst s K:=rfl
theorem dRun_load{P:Program}{nt:Nat}{dst:Option Nat}{lo hi:Nat}{s:DS}{K:DS→Prop}{t x}:dRun P dst (.load t x) lo hi s K=dResF P (.load t x) (evOp P s.env s.HB (.load t x)) dst lo hi s K:=rfl
theorem dRun_indexAddr{P:Program}{nt:Nat}{dst:Option Nat}{lo hi:Nat}{s:DS}{K:DS→Prop}{t x i}:dRun P dst (.indexAddr t x i) lo hi s K=dResF P (.indexAddr t x i) (evOp P s.env s.HB (.indexAddr t x i)) dst lo hi s K:=rfl
theorem dRun_slice{P:Program}{nt:Nat}{dst:Option Nat}{lo hi:Nat}{s:DS}{K:DS→Prop}{t x l h mx}:dRun P dst (.slice t x l h mx) lo hi s K=dResF P (.slice t x l h mx) (evOp P s.env s.HB (.slice t x l h mx)) dst lo hi s K:=rfl
theorem dRun_index{P:Program}{nt:Nat}{dst:Option Nat}{lo hi:Nat}{s:DS}{K:DS→Prop}{t x i}:dRun P dst (.index t x i) lo hi s K=dResF P (.index t x i) (evOp P s.env s.HB (.index t x i)) dst lo hi s K:=rfl
theorem dRun_convert{P:Program}{nt:Nat}{dst:Option Nat}{lo hi:Nat}{s:DS}{K:DS→Prop}{t u x}:dRun P dst (.convert t u x) lo hi s K=dResF P (.convert t u x) (evOp P s.env s.HB (.convert t u x)) dst lo hi s K:=rfl
theorem dRun_lookup{P:Program}{nt:Nat}{dst:Option Nat}{lo hi:Nat}{s:DS}{K:DS→Prop}{t x i b}:dRun P dst (.lookup t x i b) lo hi s K=dResF P (.lookup t x i b) (evOp P s.env s.HB (.lookup t x i b)) dst lo hi s K:=rfl
theorem dRun_makeInterface{P:Program}{nt:Nat}{dst:Option Nat}{lo hi:Nat}{s:DS}{K:DS→Prop}{t x}:dRun P dst (.makeInterface t x) lo hi s K=dResF P (.makeInterface t x) (evOp P s.env s.HB (.makeInterface t x)) dst lo hi s K:=rfl
theorem dRun_store{P:Program}{nt:Nat}{dst:Option Nat}{lo hi:Nat}{s:DS}{K:DS→Prop}{t a x}:dRun P dst (.store t a x) lo hi s K=dResC (evOp P s.env (s.HB++s.pb) (.store t a x)) dst s K:=rfl
theorem dRun_box{P:Program}{nt:Nat}{dst:Option Nat}{lo hi:Nat}{s:DS}{K:DS→Prop}{t x}:dRun P dst (.box t x) lo hi s K=dResC (evOp P s.env (s.HB++s.pb) (.box t x)) dst s K:=rfl
theorem dRun_makeSlice{P:Program}{nt:Nat}{dst:Option Nat}{lo hi:Nat}{s:DS}{K:DS→Prop}{t x y}:dRun P dst (.makeSlice t x y) lo hi s K=dResC (evOp P s.env (s.HB++s.pb) (.makeSlice t x y)) dst s K:=rfl
theorem dRun_mapUpdate{P:Program}{nt:Nat}{dst:Option Nat}{lo hi:Nat}{s:DS}{K:DS→Prop}{t m x v}:dRun P dst (.mapUpdate t m x v) lo hi s K=dResC (evOp P s.env (s.HB++s.pb) (.mapUpdate t m x v)) dst s K:=rfl
theorem dRun_mapEntry{P:Program}{nt:Nat}{dst:Option Nat}{lo hi:Nat}{s:DS}{K:DS→Prop}{t m x}:dRun P dst (.mapEntry t m x) lo hi s K=dResC (evOp P s.env (s.HB++s.pb) (.mapEntry t m x)) dst s K:=rfl
theorem dRun_entryStore{P:Program}{nt:Nat}{dst:Option Nat}{lo hi:Nat}{s:DS}{K:DS→Prop}{t m x v}:dRun P dst (.entryStore t m x v) lo hi s K=dResC (evOp P s.env (s.HB++s.pb) (.entryStore t m x v)) dst s K:=rfl
theorem dRun_len{P:Program}{nt:Nat}{dst:Option Nat}{lo hi:Nat}{s:DS}{K:DS→Prop}{a t}:dRun P dst (.call { callee:= .builtin .len,args:=a,argTypes:=t }) lo hi s K=dResH (evOp P s.env s.HB (.call { callee:= .builtin .len,args:=a,argTypes:=t })) dst s K:=rfl
theorem dRun_min{P:Program}{nt:Nat}{dst:Option Nat}{lo hi:Nat}{s:DS}{K:DS→Prop}{a t}:dRun P dst (.call { callee:= .builtin .min,args:=a,argTypes:=t }) lo hi s K=dResH (evOp P s.env s.HB (.call { callee:= .builtin .min,args:=a,argTypes:=t })) dst s K:=rfl
theorem dRun_max{P:Program}{nt:Nat}{dst:Option Nat}{lo hi:Nat}{s:DS}{K:DS→Prop}{a t}:dRun P dst (.call { callee:= .builtin .max,args:=a,argTypes:=t }) lo hi s K=dResH (evOp P s.env s.HB (.call { callee:= .builtin .max,args:=a,argTypes:=t })) dst s K:=rfl
theorem dRun_append{P:Program}{nt:Nat}{dst:Option Nat}{lo hi:Nat}{s:DS}{K:DS→Prop}{a t}:dRun P dst (.call { callee:= .builtin .append,args:=a,argTypes:=t }) lo hi s K=if lo=99 then dResS (evOp P s.env (s.HB++s.pb) (.call { callee:= .builtin .append,args:=a,argTypes:=t })) dst s K else dResC (evOp P s.env (s.HB++s.pb) (.call { callee:= .builtin .append,args:=a,argTypes:=t })) dst s K:=rfl
theorem dRun_call{P:Program}{dst:Option Nat}{lo hi:Nat}{s:DS}{K:DS→Prop}{f:FuncId}{a t}:dRun P dst (.call { callee:= .value (.func f),args:=a,argTypes:=t }) lo hi s K=if chainB f then dCallT P (evA s.env (.func f)) (a.toList.map (evA s.env)) dst s K else dCallF P (evA s.env (.func f)) (a.toList.map (evA s.env)) dst lo hi s K:=by
 by_cases h:chainB f
 ·have e:clsOp (.call { callee:= .value (.func f),args:=a,argTypes:=t })= .chain:= @if_pos (chainB f) (decChain f) h Cls .chain .free
  rw[if_pos h];unfold dRun;rw[e]
 ·have e:clsOp (.call { callee:= .value (.func f),args:=a,argTypes:=t })= .free:= @if_neg (chainB f) (decChain f) h Cls .chain .free
  rw[if_neg h];unfold dRun;rw[e];rfl
theorem dRun_callC{P:Program}{nt:Nat}{dst:Option Nat}{lo hi:Nat}{s:DS}{K:DS→Prop}{f:Value}{a t}:dRun P dst (.call { callee:= .value (.const f),args:=a,argTypes:=t }) lo hi s K=dCallF P (evA s.env (.const f)) (a.toList.map (evA s.env)) dst lo hi s K:=rfl
theorem dRun_callT{P:Program}{nt:Nat}{dst:Option Nat}{lo hi:Nat}{s:DS}{K:DS→Prop}{f:Nat}{a t}:dRun P dst (.call { callee:= .value (.tmp f),args:=a,argTypes:=t }) lo hi s K=dCallT P (evA s.env (.tmp f)) (a.toList.map (evA s.env)) dst s K:=rfl
theorem dRun_buildSlice{P:Program}{dst:Option Nat}{lo hi:Nat}{s:DS}{K:DS→Prop}{t n p}:dRun P dst (.buildSlice t n p) lo hi s K=if chainS t then dResC (evOp P s.env (s.HB++s.pb) (.buildSlice t n p)) dst s K else dResH (evOp P s.env s.HB (.buildSlice t n p)) dst s K:=by
 by_cases h:chainS t
 ·have e:clsOp (.buildSlice t n p)= .chain:= @if_pos (chainS t) (decChainS t) h Cls .chain .free
  rw[if_pos h];unfold dRun;rw[e]
 ·have e:clsOp (.buildSlice t n p)= .free:= @if_neg (chainS t) (decChainS t) h Cls .chain .free
  have e2:hfree (.buildSlice t n p)=true:=decide_eq_true h
  rw[if_neg h];unfold dRun;rw[e,e2]
theorem dPass_buildSlice{dst:Option Nat}{s:DS}{K:DS→Prop}{t n p}:dPass dst (.buildSlice t n p) s K=if chainS t then K (dPutC s dst (.tup []) (s.HB++s.pb))else K (dPutE s dst (.tup [])):=by
 by_cases h:chainS t
 ·have e:clsOp (.buildSlice t n p)= .chain:= @if_pos (chainS t) (decChainS t) h Cls .chain .free
  rw[if_pos h];unfold dPass;rw[e]
 ·have e:clsOp (.buildSlice t n p)= .free:= @if_neg (chainS t) (decChainS t) h Cls .chain .free
  rw[if_neg h];unfold dPass;rw[e]
theorem dRun_alloc{P:Program}{nt:Nat}{dst:Option Nat}{lo hi:Nat}{s:DS}{K:DS→Prop}{ty}:dRun P dst (.alloc ty) lo hi s K=dResA (zeroT P ty) ty dst s K:=rfl
theorem dPass_move{P:Program}{nt:Nat}{dst:Option Nat}{lo hi:Nat}{s:DS}{K:DS→Prop}{x}:dPass dst (.move x) s K=K (dPutE s dst (.tup [])):=rfl
theorem dPass_assign{P:Program}{nt:Nat}{dst:Option Nat}{lo hi:Nat}{s:DS}{K:DS→Prop}{x}:dPass dst (.assign x) s K=K (dPutE s dst (.tup [])):=rfl
theorem dPass_pick{P:Program}{nt:Nat}{dst:Option Nat}{lo hi:Nat}{s:DS}{K:DS→Prop}{a b c}:dPass dst (.pick a b c) s K=K (dPutE s dst (.tup [])):=rfl
theorem dPass_unOp{P:Program}{nt:Nat}{dst:Option Nat}{lo hi:Nat}{s:DS}{K:DS→Prop}{o t x}:dPass dst (.unOp o t x) s K=K (dPutE s dst (.tup [])):=rfl
theorem dPass_binOp{P:Program}{nt:Nat}{dst:Option Nat}{lo hi:Nat}{s:DS}{K:DS→Prop}{o t x y u}:dPass dst (.binOp o t x y u) s K=K (dPutE s dst (.tup [])):=rfl
theorem dPass_extract{P:Program}{nt:Nat}{dst:Option Nat}{lo hi:Nat}{s:DS}{K:DS→Prop}{x i}:dPass dst (.extract x i) s K=K (dPutE s dst (.tup [])):=rfl
theorem dPass_field{P:Program}{nt:Nat}{dst:Option Nat}{lo hi:Nat}{s:DS}{K:DS→Prop}{t x f}:dPass dst (.field t x f) s K=K (dPutE s dst (.tup [])):=rfl
theorem dPass_build{P:Program}{nt:Nat}{dst:Option Nat}{lo hi:Nat}{s:DS}{K:DS→Prop}{t p}:dPass dst (.build t p) s K=K (dPutE s dst (.tup [])):=rfl
theorem dPass_nilCheck{P:Program}{nt:Nat}{dst:Option Nat}{lo hi:Nat}{s:DS}{K:DS→Prop}{x}:dPass dst (.nilCheck x) s K=K (dPutE s dst (.tup [])):=rfl
theorem dPass_makeFunc{P:Program}{nt:Nat}{dst:Option Nat}{lo hi:Nat}{s:DS}{K:DS→Prop}{f a c}:dPass dst (.makeFunc f a c) s K=K (dPutE s dst (.tup [])):=rfl
theorem dPass_fieldAddr{P:Program}{nt:Nat}{dst:Option Nat}{lo hi:Nat}{s:DS}{K:DS→Prop}{t x f}:dPass dst (.fieldAddr t x f) s K=K (dPutE s dst (.tup [])):=rfl
theorem dPass_load{P:Program}{nt:Nat}{dst:Option Nat}{lo hi:Nat}{s:DS}{K:DS→Prop}{t x}:dPass dst (.load t x) s K=K (dPutE s dst (.tup [])):=rfl
theorem dPass_indexAddr{P:Program}{nt:Nat}{dst:Option Nat}{lo hi:Nat}{s:DS}{K:DS→Prop}{t x i}:dPass dst (.indexAddr t x i) s K=K (dPutE s dst (.tup [])):=rfl
theorem dPass_slice{P:Program}{nt:Nat}{dst:Option Nat}{lo hi:Nat}{s:DS}{K:DS→Prop}{t x l h mx}:dPass dst (.slice t x l h mx) s K=K (dPutE s dst (.tup [])):=rfl
theorem dPass_index{P:Program}{nt:Nat}{dst:Option Nat}{lo hi:Nat}{s:DS}{K:DS→Prop}{t x i}:dPass dst (.index t x i) s K=K (dPutE s dst (.tup [])):=rfl
theorem dPass_convert{P:Program}{nt:Nat}{dst:Option Nat}{lo hi:Nat}{s:DS}{K:DS→Prop}{t u x}:dPass dst (.convert t u x) s K=K (dPutE s dst (.tup [])):=rfl
theorem dPass_lookup{P:Program}{nt:Nat}{dst:Option Nat}{lo hi:Nat}{s:DS}{K:DS→Prop}{t x i b}:dPass dst (.lookup t x i b) s K=K (dPutE s dst (.tup [])):=rfl
theorem dPass_makeInterface{P:Program}{nt:Nat}{dst:Option Nat}{lo hi:Nat}{s:DS}{K:DS→Prop}{t x}:dPass dst (.makeInterface t x) s K=K (dPutE s dst (.tup [])):=rfl
theorem dPass_store{P:Program}{nt:Nat}{dst:Option Nat}{lo hi:Nat}{s:DS}{K:DS→Prop}{t a x}:dPass dst (.store t a x) s K=K (dPutC s dst (.tup []) (s.HB++s.pb)):=rfl
theorem dPass_box{P:Program}{nt:Nat}{dst:Option Nat}{lo hi:Nat}{s:DS}{K:DS→Prop}{t x}:dPass dst (.box t x) s K=K (dPutC s dst (.tup []) (s.HB++s.pb)):=rfl
theorem dPass_makeSlice{P:Program}{nt:Nat}{dst:Option Nat}{lo hi:Nat}{s:DS}{K:DS→Prop}{t x y}:dPass dst (.makeSlice t x y) s K=K (dPutC s dst (.tup []) (s.HB++s.pb)):=rfl
theorem dPass_mapUpdate{P:Program}{nt:Nat}{dst:Option Nat}{lo hi:Nat}{s:DS}{K:DS→Prop}{t m x v}:dPass dst (.mapUpdate t m x v) s K=K (dPutC s dst (.tup []) (s.HB++s.pb)):=rfl
theorem dPass_mapEntry{P:Program}{nt:Nat}{dst:Option Nat}{lo hi:Nat}{s:DS}{K:DS→Prop}{t m x}:dPass dst (.mapEntry t m x) s K=K (dPutC s dst (.tup []) (s.HB++s.pb)):=rfl
theorem dPass_entryStore{P:Program}{nt:Nat}{dst:Option Nat}{lo hi:Nat}{s:DS}{K:DS→Prop}{t m x v}:dPass dst (.entryStore t m x v) s K=K (dPutC s dst (.tup []) (s.HB++s.pb)):=rfl
theorem dPass_len{P:Program}{nt:Nat}{dst:Option Nat}{lo hi:Nat}{s:DS}{K:DS→Prop}{a t}:dPass dst (.call { callee:= .builtin .len,args:=a,argTypes:=t }) s K=K (dPutE s dst (.tup [])):=rfl
theorem dPass_min{P:Program}{nt:Nat}{dst:Option Nat}{lo hi:Nat}{s:DS}{K:DS→Prop}{a t}:dPass dst (.call { callee:= .builtin .min,args:=a,argTypes:=t }) s K=K (dPutE s dst (.tup [])):=rfl
theorem dPass_max{P:Program}{nt:Nat}{dst:Option Nat}{lo hi:Nat}{s:DS}{K:DS→Prop}{a t}:dPass dst (.call { callee:= .builtin .max,args:=a,argTypes:=t }) s K=K (dPutE s dst (.tup [])):=rfl
theorem dPass_append{P:Program}{nt:Nat}{dst:Option Nat}{lo hi:Nat}{s:DS}{K:DS→Prop}{a t}:dPass dst (.call { callee:= .builtin .append,args:=a,argTypes:=t }) s K=K (dPutC s dst (.tup []) (s.HB++s.pb)):=rfl
theorem dPass_call{dst:Option Nat}{s:DS}{K:DS→Prop}{f:FuncId}{a t}:dPass dst (.call { callee:= .value (.func f),args:=a,argTypes:=t }) s K=if chainB f then K (dPutC s dst (.tup []) (s.HB++s.pb))else K (dPutE s dst (.tup [])):=by
 by_cases h:chainB f
 ·have e:clsOp (.call { callee:= .value (.func f),args:=a,argTypes:=t })= .chain:= @if_pos (chainB f) (decChain f) h Cls .chain .free
  rw[if_pos h];unfold dPass;rw[e]
 ·have e:clsOp (.call { callee:= .value (.func f),args:=a,argTypes:=t })= .free:= @if_neg (chainB f) (decChain f) h Cls .chain .free
  rw[if_neg h];unfold dPass;rw[e]
theorem dPass_callC{P:Program}{nt:Nat}{dst:Option Nat}{lo hi:Nat}{s:DS}{K:DS→Prop}{f:Value}{a t}:dPass dst (.call { callee:= .value (.const f),args:=a,argTypes:=t }) s K=K (dPutE s dst (.tup [])):=rfl
theorem dPass_callT{P:Program}{nt:Nat}{dst:Option Nat}{lo hi:Nat}{s:DS}{K:DS→Prop}{f:Nat}{a t}:dPass dst (.call { callee:= .value (.tmp f),args:=a,argTypes:=t }) s K=K (dPutC s dst (.tup []) (s.HB++s.pb)):=rfl
section
variable {P:Program} {nt:Nat} {dst:Option Nat} {op:Op} {lo hi:Nat} {s:DS} {K:DS→Prop} {fin:DS→Prop} {r:List (COp×Nat×Nat)} {args args':List AV} {g:FuncId}
theorem vcD_nil:vcD P nt fin [] s=(ckAll s.vs s.ck∧fin s):=rfl
theorem vcD_none:vcD P nt fin ((⟨dst,op,none⟩,lo,hi)::r) s=(dstOk nt dst∧dRun P dst op lo hi s (vcD P nt fin r)):=rfl
theorem vcD_some{gw:Option Nat×Bool}:vcD P nt fin ((⟨dst,op,some gw⟩,lo,hi)::r) s=(dstOk nt dst∧vcDG P (gdV s.env gw.1) gw.2 dst op lo hi s (vcD P nt fin r)):=rfl
theorem gdV_some{env:Env}{d:Nat}:gdV env (some d)=eget env d:=rfl
theorem vcDG_run{b:Bool}:vcDG P (.bool b) b dst op lo hi s K=dRun P dst op lo hi s K:=by simp[vcDG]
theorem vcDG_tf:vcDG P (.bool true) false dst op lo hi s K=dPass dst op s K:=by simp[vcDG]
theorem vcDG_ft:vcDG P (.bool false) true dst op lo hi s K=dPass dst op s K:=by simp[vcDG]
theorem vcDG_un{w:Bool}:vcDG P (.tup []) w dst op lo hi s K=dPass dst op s K:=by simp[vcDG]
theorem vcDG_split{b w:Bool}(h1:b=true→vcDG P (.bool true) w dst op lo hi s K)(h2:b=false→vcDG P (.bool false) w dst op lo hi s K):vcDG P (.bool b) w dst op lo hi s K:=by
 cases b
 ·exact h2 rfl
 ·exact h1 rfl
theorem dResH_ok{p:Prop}{v:AV}{H:Heap}:dResH (.ok p v H) dst s K=(p∧K (dPutE s dst v)):=rfl
theorem dResH_bad:dResH .bad dst s K=False:=rfl
theorem dResF_ok{p:Prop}{v:AV}{H:Heap}:dResF P op (.ok p v H) dst lo hi s K=(p∧K (dPutF s dst v lo hi fun H=>sameR (evOp P s.env H op) p v H)):=rfl
theorem dResF_bad:dResF P op .bad dst lo hi s K=False:=rfl
theorem dResC_ok{p:Prop}{v:AV}{H:Heap}:dResC (.ok p v H) dst s K=(p∧K (dPutC s dst v H)):=rfl
theorem dResC_bad:dResC .bad dst s K=False:=rfl
theorem dResS_ok{p:Prop}{b n:Nat}{H:Heap}:dResS (.ok p (.row b n) H) dst s K=dResS2 p b n H H[b]? dst s K:=rfl
theorem dResS2_row{p:Prop}{b n:Nat}{H:Heap}{el:TypeId}{sz:Nat}{es:List (List AV)}{sl:Bool}:dResS2 p b n H (some (.row el sz es sl)) dst s K=((p∧es.length=n∧pureE es)∧K (dPutC s dst (.lst false sz es) (sealH b el sz es H))):=rfl
theorem dResA_some{cs:List AV}{ty:TypeId}:dResA (some cs) ty dst s K=(cs.all AV.oneA=true∧K (dPutA s dst (.box ty cs false))):=rfl
theorem dCallF_fn{caps:List AV}:dCallF P (.fn g caps) args dst lo hi s K=dCallP P g (args++caps) (frA s.HB (args++caps)) dst lo hi s K:=rfl
theorem dCallT_fn{caps:List AV}:dCallT P (.fn g caps) args dst s K=dCallC P g (args++caps) (frA (s.HB++s.pb) (args++caps)) dst s K:=rfl
theorem dCallT_yld{l:Nat}:dCallT P (.yld l) args dst s K=dCallY P l args dst s K:=rfl
theorem sameR_ok{p q:Prop}{v v':AV}{H H':Heap}:sameR (.ok q v' H') p v H=((p→q)∧v'=v∧H'=H):=rfl
theorem sameR_bad{p:Prop}{v:AV}{H:Heap}:sameR .bad p v H=False:=rfl
theorem allH_nil{c:Heap→Prop}:allH c []=True:=rfl
theorem allH_cons{c:Heap→Prop}{h:Heap}{t:List Heap}:allH c (h::t)=(c h∧allH c t):=rfl
theorem ckAll_nil{vs:List Heap}:ckAll vs []=True:=rfl
theorem ckAll_cons{vs:List Heap}{c:Heap→Prop}{t:List (Nat×Nat×(Heap→Prop))}:ckAll vs ((lo,hi,c)::t)=(allH c ((vs.drop lo).take (hi+1-lo))∧ckAll vs t):=rfl
theorem dCallP_pure{v:AV}(hc:PC P g args' v)(hv:v.pure=true)(hp:AV.pureL args=true)(hf:frzL [] args args')(h:K (dPutF s dst v lo hi fun _=>True)):dCallP P g args args' dst lo hi s K:=
 by unfold dCallP;exact⟨v,_,fun H _=>hc.use (handsOn_pure hp hf) hv,h⟩
theorem dCallC_pure{v:AV}(hc:PC P g args' v)(hv:v.pure=true)(hp:AV.pureL args=true)(hf:frzL [] args args')(h:K (dPutC s dst v (s.HB++s.pb))):dCallC P g args args' dst s K:=
 by unfold dCallC;exact⟨v,_,hc.use (handsOn_pure hp hf) hv,h⟩
theorem dCallC_safe{v:AV}(hc:PC P g args' v)(hv:v.pure=true)(hs:safeV v=true)(hf:frzL (s.HB++s.pb) args args')(h:K (dPutC s dst v (s.HB++s.pb))):dCallC P g args args' dst s K:=
 by unfold dCallC;exact⟨v,_,hc.use (handsOn_safe hs hf) hv,h⟩
theorem dCallC_here{v:AV}{H2 Hx:Heap}(hH:H2=s.HB++s.pb)(hc:HCH P g args H2 fun r H'=>r=v∧H'=Hx)(h:K (dPutC s dst v Hx)):dCallC P g args args' dst s K:=
 by unfold dCallC;exact⟨v,Hx,hH▸hc,h⟩
end
section
variable {P:Program} {nt m:Nat} {R:Exit→St→Prop} {g:FuncId} {args args':List AV} {dst:Option Nat} {rest:List COp} {k:List Iv} {env:Env} {H:Heap}
theorem vcP_pure{v:AV}(hc:PC P g args' v)(hv:v.pure=true)(hp:AV.pureL args=true)(hf:frzL [] args args')(h:vc P nt m R (.ops rest::k) ⟨eput env dst v,H⟩):vcP P nt m R g args args' dst rest k ⟨env,H⟩:=
 vcP_pc hc hv (handsOn_pure hp hf) h
theorem vcP_safe{v:AV}(hc:PC P g args' v)(hv:v.pure=true)(hs:safeV v=true)(hf:frzL H args args')(h:vc P nt m R (.ops rest::k) ⟨eput env dst v,H⟩):vcP P nt m R g args args' dst rest k ⟨env,H⟩:=
 vcP_pc hc hv (handsOn_safe hs hf) h
end
attribute [go_sem] dRun_move dRun_assign dRun_pick dRun_unOp dRun_binOp dRun_extract dRun_field dRun_build dRun_nilCheck dRun_makeFunc dRun_fieldAddr dRun_load dRun_indexAddr dRun_slice dRun_index dRun_convert dRun_lookup dRun_makeInterface dRun_store dRun_box dRun_makeSlice dRun_mapUpdate dRun_mapEntry dRun_entryStore dRun_len dRun_min dRun_max dRun_append dRun_call dRun_callC dRun_callT dRun_buildSlice dPass_buildSlice dRun_alloc dPass_move dPass_assign dPass_pick dPass_unOp dPass_binOp dPass_extract dPass_field dPass_build dPass_nilCheck dPass_makeFunc dPass_fieldAddr dPass_load dPass_indexAddr dPass_slice dPass_index dPass_convert dPass_lookup dPass_makeInterface dPass_store dPass_box dPass_makeSlice dPass_mapUpdate dPass_mapEntry dPass_entryStore dPass_len dPass_min dPass_max dPass_append dPass_call dPass_callC dPass_callT vcD_nil vcD_none vcD_some gdV_some vcDG_run vcDG_tf vcDG_ft vcDG_un dResH_ok dResH_bad dResF_ok dResF_bad dResC_ok dResC_bad dResS_ok dResS2_row dResA_some dCallF_fn dCallT_fn dCallT_yld sameR_ok sameR_bad allH_nil allH_cons ckAll_nil ckAll_cons dPutE dPutA dPutC dPutF List.zip_cons_cons List.zip_nil_left List.zip_nil_right append_nil
mutual
def lenV:AV→Prop
 | .agg cs=>lenL cs
 | .tup cs=>lenL cs
 | .fn _ cs=>lenL cs
 | .bf _ cs=>lenL cs
 | .pp cs=>lenL cs
 | .lst _ _ es=>es.length≤9223372036854775807
 | .any=>True
 | .int _ _=>True
 | .bool _=>True
 | .nilS=>True
 | .nilP=>True
 | .nilF=>True
 | .row _ _=>True
 | .lp _ _=>True
 | .rp _ _ _ _=>True
 | .rg _ _ _=>True
 | .yld _=>True
 | .mp _=>True
 | .val _=>True
 | .pm _ _ _ _=>True
 | .alt _=>True
 | .lf _=>True
 | .ifc _ cs=>lenL cs
def lenL:List AV→Prop
 |[]=>True
 |v::vs=>lenV v∧lenL vs
end
section
variable {S:Nat→Nat→Prop} {w:World}
mutual
theorem PV.len: ∀(v:AV) (c:Value),PV S w v c→lenV v
 | .agg cs,_,⟨a,_,h⟩=>PVL.len cs _ h
 | .tup cs,_,⟨a,_,h⟩=>PVL.len cs _ h
 | .fn _ cs,_,⟨a,_,h⟩=>PVL.len cs _ h
 | .bf _ cs,_,⟨a,_,h⟩=>PVL.len cs _ h
 | .pp cs,_,⟨ad,_,_,h⟩=>PVC.len cs ad h
 | .lst _ _ es,_,⟨A,cap,_,h1,h2,_⟩=>by unfold lenV;unfold maxLen at h2;omega
 | .any,_,_=>trivial
 | .int _ _,_,_=>trivial
 | .bool _,_,_=>trivial
 | .nilS,_,_=>trivial
 | .nilP,_,_=>trivial
 | .nilF,_,_=>trivial
 | .row _ _,_,_=>trivial
 | .lp _ _,_,_=>trivial
 | .rp _ _ _ _,_,_=>trivial
 | .rg _ _ _,_,_=>trivial
 | .yld _,_,_=>trivial
 | .mp _,_,_=>trivial
 | .val _,_,_=>trivial
 | .pm _ _ _ _,_,_=>trivial
 | .alt _,_,_=>trivial
 | .lf _,_,_=>trivial
 | .ifc _ cs,_,⟨a,_,h⟩=>PVL.len cs _ h
theorem PVL.len: ∀(vs:List AV) (l:List Value),PVL S w vs l→lenL vs
 |[],_,_=>trivial
 |v::vs,_,⟨c,cs,_,h1,h2⟩=>⟨PV.len v c h1,PVL.len vs cs h2⟩
theorem PVC.len: ∀(vs:List AV) (ad:Addr),PVC S w vs ad→lenL vs
 |[],_,_=>trivial
 |v::vs,ad,⟨⟨c,_,_,_,h1⟩,h2⟩=>⟨PV.len v c h1,PVC.len vs _ h2⟩
end
end
section
variable {κ:Cx}
mutual
theorem V.len: ∀(v:AV) (c:Value),V κ v c→lenV v
 | .agg cs,_,⟨a,_,h⟩=>VL.len cs _ h
 | .tup cs,_,⟨a,_,h⟩=>VL.len cs _ h
 | .fn _ cs,_,⟨a,_,h⟩=>VL.len cs _ h
 | .bf _ cs,_,⟨a,_,h⟩=>VL.len cs _ h
 | .pp cs,c,h=>PV.len (.pp cs) c h
 | .lst f sz es,c,h=>PV.len (.lst f sz es) c h
 | .any,_,_=>trivial
 | .int _ _,_,_=>trivial
 | .bool _,_,_=>trivial
 | .nilS,_,_=>trivial
 | .nilP,_,_=>trivial
 | .nilF,_,_=>trivial
 | .row _ _,_,_=>trivial
 | .lp _ _,_,_=>trivial
 | .rp _ _ _ _,_,_=>trivial
 | .rg _ _ _,_,_=>trivial
 | .yld _,_,_=>trivial
 | .mp _,_,_=>trivial
 | .val _,_,_=>trivial
 | .pm _ _ _ _,_,_=>trivial
 | .alt _,_,_=>trivial
 | .lf _,_,_=>trivial
 | .ifc _ cs,_,⟨a,_,h⟩=>VL.len cs _ h
theorem VL.len: ∀(vs:List AV) (l:List Value),VL κ vs l→lenL vs
 |[],_,_=>trivial
 |v::vs,_,⟨c,cs,_,h1,h2⟩=>⟨V.len v c h1,VL.len vs cs h2⟩
end
end
theorem PC.body{P:Program}{f:FuncId}{fn:Func}{c:Code}{args:List AV}{v:AV}(hf:P.funcs[f]? =some fn)(hname:(fn.name == "runtime.NumGoroutine")=false)(hb:fn.body=some c)(hn:args.length≤fn.ntmps)
  (hv:v.pure=true) (h:lenL args→CV P fn.ntmps 0 (Ret P fn.results.toList fun r H=>frz H r v) [.code c] ⟨argEnv 0 args,[]⟩):PC P f args v:=by
 refine PC.mk ⟨enters hf hname (by rw[hb];rfl),fun κ cargs hc hH hvl=>?_⟩
 have h1:HCH P f args [] fun r H=>frz H r v:=HCH.body hf hname hb hn (h (VL.len _ _ hvl))
 refine(h1.2 κ cargs hc hH hvl).mono ?_
 rintro e w' ⟨r,cv,κ',rfl,hq,rfl,k1,k2,k3⟩
 have hpv:=frz_ok k1 _ _ _ hq k3
 refine⟨v,cv,{ S:=sealed κ',w:=κ'.w,ρ:=κ'.ρ,H:=[] },rfl,⟨rfl,rfl⟩,rfl,⟨fun b x hb=>(by have hb:([]:Heap)[b]? =some x:=hb;simp at hb),fun b b' hb=>absurd hb (Nat.not_lt_zero _),fun b hb=>absurd hb (Nat.not_lt_zero _),fun g o hs=>?_,k1.gls (κ':={ S:=sealed κ',w:=κ'.w,ρ:=κ'.ρ,H:=[] }) fun g o hs=>⟨.inl hs,SameAt.refl⟩⟩,?_,?_⟩
 ·exact hs.elim (k1.swf g o) fun⟨b,q1,q2,q3⟩=>by rw[←q3];exact k1.lt b q1 q2
 ·have hno: ∀{b:Nat} {x:Blk},κ.H[b]? =some x→False:=fun h=>by rw[hH]at h;simp at h
  refine { s:=fun g o hs=>⟨.inl (k2.s g o hs).1,(k2.s g o hs).2⟩,box:=fun b ty cs sl hb=>(hno hb).elim,row:=fun b el sz es sl hb=>(hno hb).elim,rg:=fun b el sz es g hb=>(hno hb).elim,os:=k2.os,tape:=k2.tape,output:=k2.output,size:=k2.size,frame:=k2.frame,snew:=fun g o hs=>?_,own:=fun g ⟨b,hb,_⟩=>absurd hb (Nat.not_lt_zero _) }
  rcases hs with hs|⟨b,q1,q2,q3⟩
  ·exact k2.snew g o hs
  ·exact .inr ((k2.own g ⟨b,q1,q2,q3⟩).symm)
 ·have:=VL.of_pvl (κ:={ S:=sealed κ',w:=κ'.w,ρ:=κ'.ρ,H:=[] }) [v] [cv] ⟨cv,[],rfl,hpv,rfl⟩
  obtain⟨_,_,e,h2,_⟩:=this
  cases e;exact h2
theorem dtrue{p:Prop}{i:Decidable p}:(@decide p i=true)=p:=by simp
theorem dfalse{p:Prop}{i:Decidable p}:(@decide p i=false)= ¬p:=by simp
theorem bt{p:Prop}{i:Decidable p}(h:p):AV.bool true=AV.bool (@decide p i):=by simp[h]
theorem bf{p:Prop}{i:Decidable p}(h: ¬p):AV.bool false=AV.bool (@decide p i):=by simp[h]
theorem bd{p q:Prop}{i:Decidable p}{j:Decidable q}(h:p↔q):AV.bool (@decide p i)=AV.bool (@decide q j):=by simp[h]
theorem wk_same{m:Nat}{env env':Env}{H:Heap}(h:subE env env'):Wk m ⟨env,H⟩ ⟨env',H⟩:=⟨h,.inl rfl⟩
theorem wk_drop{m:Nat}{env env':Env}{H H':Heap}(h:subE env env')(h1:pfx H' H)(h2:m≤H'.length)(h3:belowE H'.length env')(h4:belowH H'.length H'):Wk m ⟨env,H⟩ ⟨env',H'⟩:=⟨h,.inr ⟨h1,h2,h3,h4⟩⟩
attribute [go_sem] lenV lenL subE
mutual
theorem below_pure(n:Nat): ∀v:AV,v.pure=true→belowV n v=true
 | .agg cs,h=>by simpa[belowV]using belowL_pure n cs (by simpa[AV.pure]using h)
 | .tup cs,h=>by simpa[belowV]using belowL_pure n cs (by simpa[AV.pure]using h)
 | .fn _ cs,h=>by simpa[belowV]using belowL_pure n cs (by simpa[AV.pure]using h)
 | .bf _ cs,h=>by simpa[belowV]using belowL_pure n cs (by simpa[AV.pure]using h)
 | .row _ _,h=>by simp[AV.pure]at h
 | .lp _ _,h=>by simp[AV.pure]at h
 | .rp _ _ _ _,h=>by simp[AV.pure]at h
 | .rg _ _ _,h=>by simp[AV.pure]at h
 | .yld _,h=>by simp[AV.pure]at h
 | .mp _,h=>by simp[AV.pure]at h
 | .val _,h=>by simp[AV.pure]at h
 | .pm _ _ _ _,_=>by simp[belowV]
 | .alt _,_=>by simp[belowV]
 | .lf _,_=>by simp[belowV]
 | .ifc _ cs,h=>by simpa[belowV]using belowL_pure n cs (by simpa[AV.pure]using h)
 | .any,_=>by simp[belowV]
 | .int _ _,_=>by simp[belowV]
 | .bool _,_=>by simp[belowV]
 | .nilS,_=>by simp[belowV]
 | .nilP,_=>by simp[belowV]
 | .nilF,_=>by simp[belowV]
 | .lst _ _ _,_=>by simp[belowV]
 | .pp _,_=>by simp[belowV]
theorem belowL_pure(n:Nat): ∀vs:List AV,AV.pureL vs=true→belowL n vs=true
 |[],_=>by simp[belowL]
 |v::vs,h=>by
  simp only[AV.pureL,Bool.and_eq_true]at h
  simp[belowL,below_pure n v h.1,belowL_pure n vs h.2]
end
theorem belowB_box{n:Nat}{ty:TypeId}{cs:List AV}{sl:Bool}:belowB n (.box ty cs sl)=(belowL n cs=true):=rfl
theorem belowB_row{n:Nat}{el:TypeId}{sz:Nat}{es:List (List AV)}{sl:Bool}(h:pureE es):belowB n (.row el sz es sl)=True:=by
 simp only[belowB,eq_iff_iff,iff_true];exact fun e he=>belowL_pure n e (h e he)
theorem belowB_loop{n l nt:Nat}{ps:Array Tmp}{assign body:Code}{env:Env}:belowB n (.loop l nt ps assign body env)=belowE n env:=rfl
attribute [go_sem] belowB_loop pfx belowE belowH belowB_box belowB_row belowV belowL Nat.zero_le
end Go.Fl
namespace Go.Fl
open Go.RowKit
def sealSt(b:Nat)(el:TypeId)(sz:Nat)(es:List (List AV))(s:St):St:=⟨subEnv b es.length (.lst false sz es) s.env,sealH b el sz es s.H⟩
theorem Good.sld{nt:Nat}{E:Cx}{s:St}{a:Act}{w:World}{b:Nat}{el:TypeId}{sz:Nat}{es:List (List AV)}{sl:Bool}(hg:Good nt E s a w)(hb:s.H[b]? =some (.row el sz es sl))(hp:pureE es):Good nt E (sealSt b el sz es s) a w:=by
 obtain⟨κ,rfl,h2,h3,h4,h5,h6,h7⟩:=hg
 rw[←h2]at hb
 have hlen:(sealC κ b el sz es).H.length=κ.H.length:=by simp[sealC,sealH]
 refine⟨sealC κ b el sz es,rfl,by simp only[sealC,sealSt,h2],h3.sealRow hb hp,StepM.sealRow h3 hb hp h4,h5,fun t=>?_,h7.1,fun d hd=>?_⟩
 ·simp only[sealSt,eget_subEnv]
  exact V.sld h3 hb hp _ _ (h6 t)
 ·obtain⟨D,e1,e2,e3,e4⟩:=h7.2 d hd
  exact⟨D,e1,e2,e3,fun⟨b',q1,q2⟩=>e4 ⟨b',by rw[hlen]at q1;exact q1,q2⟩⟩
section
variable {P:Program} {nt m:Nat} {R:Exit→St→Prop} {k:List Iv} {st:St}
end
attribute [go_sem] subV subL subB subEnv sealSt sealH
section
variable (b:Nat) (l:List AV)
mutual
def bubV:AV→AV
 | .lp b' o=>if b'=b then .pp (l.drop o)else .lp b' o
 | .row b' n'=> .row b' n'
 | .agg cs=> .agg (bubL cs)
 | .tup cs=> .tup (bubL cs)
 | .fn f cs=> .fn f (bubL cs)
 | .bf f cs=> .bf f (bubL cs)
 | .any=> .any
 | .int k m=> .int k m
 | .bool t=> .bool t
 | .nilS=> .nilS
 | .nilP=> .nilP
 | .nilF=> .nilF
 | .lst f sz es=> .lst f sz es
 | .pp cs=> .pp cs
 | .rp b' k i o=> .rp b' k i o
 | .rg b' k g=> .rg b' k g
 | .yld k=> .yld k
 | .mp k=> .mp k
 | .val k=> .val k
 | .pm a b c d=> .pm a b c d
 | .alt a=> .alt a
 | .lf a=> .lf a
 | .ifc f cs=> .ifc f (bubL cs)
def bubL:List AV→List AV
 |[]=>[]
 |v::vs=>bubV v::bubL vs
end
def bubEnv(env:Env):Env:=env.map fun p=>(p.1,bubV b l p.2)
def bubB:Blk→Blk
 | .box ty cs sl=> .box ty (bubL b l cs) sl
 | .row el sz es sl=> .row el sz (es.map (bubL b l)) sl
 | .rg el sz es g=> .rg el sz (es.map (bubL b l)) g
 | .loop i nt ps assign body env=> .loop i nt ps assign body (bubEnv b l env)
 | .mp P g t q n f=> .mp P g t q n f
 | .raw g k=> .raw g k
 | .lpx l=> .lpx l
 | .lpe l c=> .lpe l c
 | .gone=> .gone
end
theorem eget_bubEnv(b:Nat)(l:List AV): ∀(env:Env) (t:Nat),eget (bubEnv b l env) t=bubV b l (eget env t)
 |[],t=>by simp[bubEnv,eget,bubV]
 |(k,v)::r,t=>by
  have:=eget_bubEnv b l r t
  simp only[bubEnv]at this
  simp only[bubEnv,List.map_cons,eget_cons]
  split
  ·rfl
  ·exact this
theorem bubL_length(b:Nat)(l:List AV): ∀vs:List AV,(bubL b l vs).length=vs.length
 |[]=>rfl
 |_::vs=>by simp[bubL,bubL_length b l vs]
theorem bubL_append(b:Nat)(l:List AV): ∀a c:List AV,bubL b l (a++c)=bubL b l a++bubL b l c
 |[],c=>rfl
 |v::a,c=>by simp[bubL,bubL_append b l a c]
theorem bubL_flatten(b:Nat)(l:List AV): ∀es:List (List AV),(es.map (bubL b l)).flatten=bubL b l es.flatten
 |[]=>rfl
 |e::es=>by simp[bubL_append,bubL_flatten b l es]
mutual
theorem bubV_pure(b:Nat)(l:List AV): ∀v:AV,v.pure=true→bubV b l v=v
 | .agg cs,h=>by rw[bubV,bubL_pure b l cs (by simpa[AV.pure]using h)]
 | .tup cs,h=>by rw[bubV,bubL_pure b l cs (by simpa[AV.pure]using h)]
 | .fn _ cs,h=>by rw[bubV,bubL_pure b l cs (by simpa[AV.pure]using h)]
 | .bf _ cs,h=>by rw[bubV,bubL_pure b l cs (by simpa[AV.pure]using h)]
 | .row _ _,h=>by simp[AV.pure]at h
 | .lp _ _,h=>by simp[AV.pure]at h
 | .rp _ _ _ _,h=>by simp[AV.pure]at h
 | .rg _ _ _,h=>by simp[AV.pure]at h
 | .yld _,h=>by simp[AV.pure]at h
 | .mp _,h=>by simp[AV.pure]at h
 | .val _,h=>by simp[AV.pure]at h
 | .pm _ _ _ _,_=>by simp[bubV]
 | .alt _,_=>by simp[bubV]
 | .lf _,_=>by simp[bubV]
 | .ifc _ cs,h=>by rw[bubV,bubL_pure b l cs (by simpa[AV.pure]using h)]
 | .any,_=>by simp[bubV]
 | .int _ _,_=>by simp[bubV]
 | .bool _,_=>by simp[bubV]
 | .nilS,_=>by simp[bubV]
 | .nilP,_=>by simp[bubV]
 | .nilF,_=>by simp[bubV]
 | .lst _ _ _,_=>by simp[bubV]
 | .pp _,_=>by simp[bubV]
theorem bubL_pure(b:Nat)(l:List AV): ∀vs:List AV,AV.pureL vs=true→bubL b l vs=vs
 |[],_=>by simp[bubL]
 |v::vs,h=>by
  simp only[AV.pureL,Bool.and_eq_true]at h
  rw[bubL,bubV_pure b l v h.1,bubL_pure b l vs h.2]
end
section
variable {κ:Cx} (hc:Conc κ) {b:Nat} {ty:TypeId} {cs:List AV} {sl:Bool} (hb:κ.H[b]? =some (.box ty cs sl)) (hp:AV.pureL cs=true)
def bubS(κ:Cx)(b k:Nat)(g o:Nat):Prop:=κ.S g o∨(g=(κ.ρ b).blk∧o<k)
def bubH(b:Nat)(ty:TypeId)(cs:List AV)(H:Heap):Heap:=(H.map (bubB b cs)).set b (.box ty cs true)
def bubC(κ:Cx)(b:Nat)(ty:TypeId)(cs:List AV):Cx:={ S:=bubS κ b cs.length,w:=κ.w,ρ:=κ.ρ,H:=bubH b ty cs κ.H }
theorem PVL.drop{S:Nat→Nat→Prop}{w:World}: ∀(n:Nat) (cs:List AV) (l:List Value),PVL S w cs l→PVL S w (cs.drop n) (l.drop n)
 |0,_,_,h=>h
 |n+1,[],_,h=>by rw[show _=_ from h];simp;rfl
 |n+1,_::cs,_,⟨c,l,e,_,h⟩=>by subst e;exact PVL.drop n cs l h
theorem PVL.length{S:Nat→Nat→Prop}{w:World}: ∀(cs:List AV) (l:List Value),PVL S w cs l→cs.length=l.length
 |[],_,h=>by rw[show _=_ from h];rfl
 |_::cs,_,⟨c,l,e,_,h⟩=>by subst e;simp[PVL.length cs l h]
include hc hb hp
theorem bub_box(off:Nat):PV (bubS κ b cs.length) κ.w (.pp (cs.drop off)) (.pointer (some ⟨(κ.ρ b).blk,off,none⟩)):=by
 obtain⟨a1,cur,a2,a3,a4,a5⟩:=hc.blk b _ hb
 have hpv:=PVL.mono (S':=bubS κ b cs.length) (w':=κ.w) (fun g o hs=>⟨.inl hs,SameAt.refl⟩) _ _ (PVL.of_v _ _ hp a3)
 have hl:=PVL.length _ _ hpv
 refine⟨_,rfl,rfl,pvc_of _ (cur.toList.drop off) off (PVL.drop off _ _ hpv) (fun u hu=>a4 u (List.mem_of_mem_drop hu)) (fun j u hu=>?_)⟩
 rw[List.getElem?_drop]at hu
 refine⟨?_,.inr ⟨rfl,by have:=(List.getElem?_eq_some_iff.1 hu).1;omega⟩⟩
 rw[cell_of_row κ.w _ _ cur ty (0,0) a2]
 simpa using hu
theorem bubH_get{b':Nat}:(bubC κ b ty cs).H[b']? =if b'=b then some (.box ty cs true)else(κ.H[b']?).map (bubB b cs):=by
 have hlt:=(List.getElem?_eq_some_iff.1 hb).1
 simp only[bubC,bubH,getElem?_set,length_map,getElem?_map]
 by_cases e:b=b'
 ·subst e;simp[hlt]
 ·rw[if_neg e,if_neg (fun h=>e h.symm)]
mutual
theorem V.bub: ∀(v:AV) (c:Value),V κ v c→V (bubC κ b ty cs) (bubV b cs v) c
 | .lp b' off,c,hv=>by
  rw[bubV]
  obtain⟨ty',cs',sl',hb',e⟩:=hv
  split
  ·rename_i e'
   subst e'
   rw[e]
   exact bub_box hc hb hp off
  ·rename_i hbb
   have hg:=bubH_get hc hb hp (b':=b')
   rw[if_neg hbb,hb']at hg
   exact⟨_,_,_,hg,e⟩
 | .agg cs,_,⟨a,e,hl⟩=>⟨a,e,VL.bub cs _ hl⟩
 | .tup cs,_,⟨a,e,hl⟩=>⟨a,e,VL.bub cs _ hl⟩
 | .fn _ cs,_,⟨a,e,hl⟩=>⟨a,e,VL.bub cs _ hl⟩
 | .bf _ cs,_,⟨a,e,hl⟩=>⟨a,e,VL.bub cs _ hl⟩
 | .any,_,_=>trivial
 | .int _ _,_,hv=>hv
 | .bool _,_,hv=>hv
 | .nilS,_,hv=>hv
 | .nilP,_,hv=>hv
 | .nilF,_,hv=>hv
 | .lst f sz2 es2,c,hv=>PV.mono (S:=κ.S) (S':=bubS κ b cs.length) (w':=κ.w) (fun g o hs=>⟨.inl hs,SameAt.refl⟩) (.lst f sz2 es2) c hv
 | .pp cs',c,hv=>PV.mono (S:=κ.S) (S':=bubS κ b cs.length) (w':=κ.w) (fun g o hs=>⟨.inl hs,SameAt.refl⟩) (.pp cs') c hv
 | .row b' n',c,hv=>by
  obtain⟨h0,el',sz',es2,sl',hb',hle,e⟩:=hv
  have hg:=bubH_get hc hb hp (b':=b')
  have hbb:b'≠b:=fun e=>by subst e;rw[hb]at hb';cases hb'
  rw[if_neg hbb,hb']at hg
  exact⟨h0,_,_,_,_,hg,by simpa using hle,fun e2=>e (by simpa using e2)⟩
 | .rp b' n' i off,c,hv=>by
  obtain⟨h0,el',sz',es2,sl',hb',hle,e⟩:=hv
  have hg:=bubH_get hc hb hp (b':=b')
  have hbb:b'≠b:=fun e=>by subst e;rw[hb]at hb';cases hb'
  rw[if_neg hbb,hb']at hg
  exact⟨h0,_,_,_,_,hg,by simpa using hle,fun e2=>e (by simpa using e2)⟩
 | .rg b' n' g,c,hv=>by
  obtain⟨h0,el',sz',es2,g',hb',hle,e⟩:=hv
  have hg:=bubH_get hc hb hp (b':=b')
  have hbb:b'≠b:=fun e=>by subst e;rw[hb]at hb';cases hb'
  rw[if_neg hbb,hb']at hg
  exact⟨h0,_,_,_,_,hg,hle,fun e2=>⟨by rw[length_map];exact(e e2).1,(e e2).2⟩⟩
 | .yld _,_,hv=>hv
 | .mp _,_,hv=>hv
 | .val _,_,hv=>hv
 | .lf _,_,hv=>hv
 | .ifc _ cs,_,⟨a,e,hl⟩=>⟨a,e,VL.bub cs _ hl⟩
 | .alt a,c,hv=>PV.mono (S:=κ.S) (S':=bubS κ b cs.length) (w':=κ.w) (fun g o hs=>⟨.inl hs,SameAt.refl⟩) (.alt a) c hv
 | .pm P' t q f,c,hv=>PV.mono (S:=κ.S) (S':=bubS κ b cs.length) (w':=κ.w) (fun g o hs=>⟨.inl hs,SameAt.refl⟩) (.pm P' t q f) c hv
theorem VL.bub: ∀(vs:List AV) (l:List Value),VL κ vs l→VL (bubC κ b ty cs) (bubL b cs vs) l
 |[],_,hv=>hv
 |v::vs,_,⟨c,cs,e,h1,h2⟩=>⟨c,cs,e,V.bub v c h1,VL.bub vs cs h2⟩
end
theorem Conc.bub:Conc (bubC κ b ty cs):=by
 have hlt:=(List.getElem?_eq_some_iff.1 hb).1
 have hlen:(bubC κ b ty cs).H.length=κ.H.length:=by simp[bubC,bubH]
 have hnb:(κ.ρ b).isNil=false:=(hc.blk b _ hb).1
 refine⟨fun b' x hx=>?_,fun c d h1 h2=>?_,fun c h1=>?_,fun g o hs=>?_,hc.gls (κ':=bubC κ b ty cs) fun g o hs=>⟨.inl hs,SameAt.refl⟩⟩
 ·rw[bubH_get hc hb hp]at hx
  by_cases hbb:b'=b
  ·subst hbb
   rw[if_pos rfl]at hx
   cases hx
   obtain⟨a1,cur,a2,a3,a4,a5⟩:=hc.blk _ _ hb
   refine⟨a1,cur,a2,?_,a4,fun e=>by cases e⟩
   have:=VL.bub hc hb hp _ _ a3
   rwa[bubL_pure _ _ _ hp]at this
  ·rw[if_neg hbb]at hx
   obtain⟨x0,hx0,rfl⟩:=Option.map_eq_some_iff.1 hx
   have hb'l:=(List.getElem?_eq_some_iff.1 hx0).1
   have hno:(κ.ρ b').isNil=false→ ∀o,(bubC κ b ty cs).S (κ.ρ b').blk o→κ.S (κ.ρ b').blk o:=fun hn o hs=>by
    rcases hs with hs|⟨q2,_⟩
    ·exact hs
    ·exact absurd (hc.inj b' b hb'l hlt hn hnb q2) hbb
   have hok:=hc.blk b' x0 hx0
   cases x0 with
   |box ty cs sl=>
    obtain⟨a1,cur,a2,a3,a4,a5⟩:=hok
    exact⟨a1,cur,a2,VL.bub hc hb hp _ _ a3,a4,fun e o hs=>a5 e o (hno a1 o hs)⟩
   |row el' sz' es2 sl'=>
    obtain⟨h1,h2,h3,h4⟩:=hok
    refine⟨h1,fun e he=>?_,fun hn=>⟨(h3 hn).1,by rw[(h3 hn).2];rfl⟩,fun hn=>?_⟩
    ·obtain⟨e0,h,rfl⟩:=List.mem_map.1 he
     rw[bubL_length];exact h2 e0 h
    ·obtain⟨⟨cur,a1,a2,a3,a4,a5,a6⟩,d1,d2⟩:=h4 hn
     refine⟨⟨cur,a1,a2,by rw[length_map];exact a3,a4,?_,by rw[length_map];exact a6⟩,fun o ho hs=>d1 o (by rw[length_map]at ho;exact ho) (hno hn o hs),fun e o hs=>d2 e o (hno hn o hs)⟩
     have:=VL.bub hc hb hp _ _ a5
     rw[bubL_flatten];simpa using this
   |rg el' sz' es2 g=>
    obtain⟨h1,h2,h3,h4⟩:=hok
    refine⟨h1,fun e he=>?_,fun hn=>⟨(h3 hn).1,by rw[(h3 hn).2];rfl⟩,fun hn=>?_⟩
    ·obtain⟨e0,h,rfl⟩:=List.mem_map.1 he
     rw[bubL_length];exact h2 e0 h
    ·obtain⟨⟨cur,a1,a2,a3,a4,a5,a6⟩,d2⟩:=h4 hn
     refine⟨⟨cur,a1,a2,by rw[length_map];exact a3,a4,?_,by rw[length_map];exact a6⟩,fun o hs=>d2 o (hno hn o hs)⟩
     have:=VL.bub hc hb hp _ _ a5
     rw[bubL_flatten];simpa using this
   |loop i nt ps assign body env=>
    obtain⟨a1,a2,fn,tmps,dfr,a3,a4,a5,a6⟩:=hok
    exact⟨a1,a2,fn,tmps,dfr,a3,a4,fun t=>by rw[eget_bubEnv];exact V.bub hc hb hp _ _ (a5 t),fun o hs=>a6 o (by rw[←a2]at hs ⊢;exact hno a1 o hs)⟩
   |mp P' g' t' q' n' f'=>
    obtain⟨a1,a2,a3,a4⟩:=hok
    exact⟨a1,a2,a3,fun o hs=>a4 o (by rw[←a2]at hs ⊢;exact hno a1 o hs)⟩
   |raw g' k'=>
    obtain⟨a1,a2,a3,a4⟩:=hok
    exact⟨a1,a2,a3,fun o hs=>a4 o (by rw[←a2]at hs ⊢;exact hno a1 o hs)⟩
   |gone=>exact hok
   |lpe i c=>
    obtain⟨a1,a2,a3,a4⟩:=hok
    exact⟨a1,a2,a3,fun o hs=>a4 o (by rw[←a2]at hs ⊢;exact hno a1 o hs)⟩
   |lpx i=>
    obtain⟨a1,a2,a3,a4⟩:=hok
    exact⟨a1,a2,a3,fun o hs=>a4 o (by rw[←a2]at hs ⊢;exact hno a1 o hs)⟩
 ·rw[hlen]at h1 h2;exact hc.inj c d h1 h2
 ·rw[hlen]at h1;exact hc.lt c h1
 ·rcases hs with hs|⟨q2,_⟩
  ·exact hc.swf g o hs
  ·rw[q2];exact hc.lt b hlt hnb
theorem StepM.bub{E:Cx}(h:StepM E κ):StepM E (bubC κ b ty cs):=by
 have hlt:=(List.getElem?_eq_some_iff.1 hb).1
 have hlen:(bubC κ b ty cs).H.length=κ.H.length:=by simp[bubC,bubH]
 have hnb:(κ.ρ b).isNil=false:=(hc.blk b _ hb).1
 have hg:=fun b'=>bubH_get hc hb hp (b':=b')
 refine { s:=fun g o hs=>⟨.inl (h.s g o hs).1,(h.s g o hs).2⟩,box:=fun b' ty cs sl hb'=>?_,row:=fun b' el' sz' es2 sl hb'=>?_,rg:=fun b' el' sz' es2 g hb'=>(by
  obtain⟨es',g',e1,e2,e3⟩:=h.rg b' el' sz' es2 g hb'
  have hbb:b'≠b:=fun e=>by subst e;rw[hb]at e1;cases e1
  have:=hg b'
  rw[if_neg hbb,e1]at this
  exact⟨_,_,this,e2,fun e=>⟨by rw[length_map];exact(e3 e).1,(e3 e).2⟩⟩),os:=h.os,tape:=h.tape,output:=h.output,size:=h.size,frame:=h.frame,snew:=fun g o hs=>?_,own:=fun g ⟨b',h1,h2⟩=>h.own g ⟨b',by rw[hlen]at h1;exact h1,h2⟩ }
 ·obtain⟨e1,cs',sl',e2⟩:=h.box b' ty cs sl hb'
  have:=hg b'
  by_cases hbb:b'=b
  ·subst hbb
   rw[hb]at e2;cases e2
   rw[if_pos rfl]at this
   exact⟨e1,_,_,this⟩
  ·rw[if_neg hbb,e2]at this
   exact⟨e1,_,_,this⟩
 ·obtain⟨es',sl',e1,e2,e3⟩:=h.row b' el' sz' es2 sl hb'
  have:=hg b'
  have hbb:b'≠b:=fun e=>by subst e;rw[hb]at e1;cases e1
  rw[if_neg hbb,e1]at this
  exact⟨_,_,this,by simpa using e2,fun e=>e3 (by simpa using e)⟩
 ·rcases hs with hs|⟨q2,_⟩
  ·exact h.snew g o hs
  ·exact .inr ((h.own g ⟨b,hlt,hnb,q2.symm⟩).symm)
end
theorem HCH.bub{P:Program}{g:FuncId}{args:List AV}{Q:AV→Heap→Prop}{H:Heap}{b:Nat}{ty:TypeId}{cs:List AV}{sl:Bool}(hb:H[b]? =some (.box ty cs sl))(hp:AV.pureL cs=true)
  (h1:HCH P g (bubL b cs args) (bubH b ty cs H) Q):HCH P g args H Q:=by
 refine⟨h1.1,fun κ cargs hc hH hvl=>?_⟩
 subst hH
 refine(h1.2 (bubC κ b ty cs) cargs (hc.bub hb hp) rfl (VL.bub hc hb hp _ _ hvl)).mono ?_
 rintro e w' ⟨r,c,κ',e1,q,e2,k1,k2,k3⟩
 exact⟨r,c,κ',e1,q,e2,k1,(StepM.bub hc hb hp (.refl κ)).trans k2,k3⟩
theorem vcP_bub{P:Program}{nt m:Nat}{R:Exit→St→Prop}{g:FuncId}{args args' args'':List AV}{dst:Option Nat}{rest:List COp}{k:List Iv}{env:Env}{H:Heap}{ty:TypeId}{cs:List AV}{sl:Bool}(b:Nat)(hb:H[b]? =some (.box ty cs sl))(hp:AV.pureL cs=true)
  (h:vcP P nt m R g (bubL b cs args) args' dst rest k ⟨env,bubH b ty cs H⟩):vcP P nt m R g args args'' dst rest k ⟨env,H⟩:=by
 unfold vcP vcC at h ⊢
 exact HCH.bub hb hp h
attribute [go_sem] bubV bubL bubB bubH bubEnv
theorem putObj_cell{w:World}{l:Nat}{o o':Obj}(hl:w.heap[l]? =some o)(ho:isCM o=false)(ho':isCM o'=false)(g k:Nat):SameAt w (w.putObj l o') g k:=by
 by_cases e:g=l
 ·subst e
  refine⟨?_,fun _ _ _ _ _ q=>(q.not hl fun _ _ e=>by subst e;cases ho).elim⟩
  unfold World.cell?
  simp only[World.putObj_heap_same (Array.getElem?_eq_some_iff.1 hl).1,hl]
  cases o<;>cases o'<;>simp_all [isCM]
 ·exact SameAt.of_block (World.putObj_heap_other e)
theorem putObj_back{w:World}{l:Nat}{o o':Obj}(hl:w.heap[l]? =some o):(w.putObj l o').putObj l o=w:=by
 unfold World.putObj
 have:(w.heap.setIfInBounds l o').setIfInBounds l o=w.heap:=by
  apply Array.ext_getElem?
  intro i
  by_cases e:l=i
  ·subst e
   obtain⟨h1,h2⟩:=Array.getElem?_eq_some_iff.1 hl
   simp[h1,h2]
  ·simp[Array.getElem?_setIfInBounds_ne e]
 simp[this]
theorem Good.put2{nt:Nat}{E:Cx}{st:St}{a:Act}{w:World}{l:Nat}{o o':Obj}(hl:E.w.heap[l]? =some o)(ho:isCM o=false)(ho':isCM o'=false)(hno: ¬Owned E l)(hg:Good nt E st a w):
  w.heap[l]? =some o∧Good nt { E with w:=E.w.putObj l o' } st a (w.putObj l o'):=by
 obtain⟨κ,rfl,h2,h3,h4,h5,h6,h7,h8⟩:=hg
 have hlt:l<E.w.heap.size:=(Array.getElem?_eq_some_iff.1 hl).1
 have hlκ:κ.w.heap[l]? =some o:=by rw[h4.frame l hlt hno];exact hl
 have hnoκ: ¬Owned κ l:=fun h=>(h4.own l h).elim hno (by omega)
 obtain⟨c1,_,c3⟩:=h3.putObj hlκ ho ho' hnoκ
 refine⟨hlκ,{ κ with w:=κ.w.putObj l o' },rfl,h2,c1,?_,h5,fun t=>V.mono c3 _ _ (h6 t),h7,fun d hd=>?_⟩
 ·refine { s:=fun g k hs=>⟨(h4.s g k hs).1,?_⟩,box:=h4.box,row:=h4.row,rg:=h4.rg,os:=h4.os,tape:=h4.tape,output:=h4.output,size:=by simpa using h4.size,frame:=fun g hg hn=>?_,snew:=fun g k hs=>(by show _∨(E.w.putObj l o').heap.size≤g∨Owned E g;rw[World.putObj_size];exact h4.snew g k hs),own:=fun g hg=>(by show Owned E g∨(E.w.putObj l o').heap.size≤g;rw[World.putObj_size];exact h4.own g hg) }
  ·refine SameAt.trans ?_ ((h4.s g k hs).2.trans (putObj_cell hlκ ho ho' g k))
   have:=putObj_cell (w:=E.w.putObj l o') (o:=o') (o':=o) (World.putObj_heap_same hlt) ho' ho g k
   rw[putObj_back hl]at this;exact this
  ·by_cases e:g=l
   ·subst e
    rw[World.putObj_heap_same (Array.getElem?_eq_some_iff.1 hlκ).1,World.putObj_heap_same hlt]
   ·rw[World.putObj_heap_other e,World.putObj_heap_other e]
    exact h4.frame g (by simpa using hg) hn
 ·obtain⟨D,e1,e2,e3,e4⟩:=h8 d hd
  refine⟨D,e1,?_,by simpa using e3,e4⟩
  have:D≠l:=by omega
  show(κ.w.putObj l o').heap[D]? =_
  rw[World.putObj_heap_other this];exact e2
theorem join{κ κ4:Cx}{n:Nat}(hc:Conc κ)(h4:Conc κ4)(hs:StepM { κ with H:=κ.H.take n } κ4)(hl:κ4.H.length=n)(hn:n≤κ.H.length):
  Conc { S:=κ4.S,w:=κ4.w,ρ:=fun b=>if b<n then κ4.ρ b else κ.ρ b,H:=κ4.H++κ.H.drop n }∧StepM κ { S:=κ4.S,w:=κ4.w,ρ:=fun b=>if b<n then κ4.ρ b else κ.ρ b,H:=κ4.H++κ.H.drop n }:=by
 have hlo: ∀{b:Nat},b<n→(κ4.H++κ.H.drop n)[b]? =κ4.H[b]? :=fun h=>getElem?_append_left (by omega)
 have hhi: ∀{b:Nat},¬ b<n→(κ4.H++κ.H.drop n)[b]? =κ.H[b]? :=fun {b} h=>by
  rw[getElem?_append_right (by omega),List.getElem?_drop];congr 1;omega
 have htk: ∀{b:Nat},b<n→(κ.H.take n)[b]? =κ.H[b]? :=fun {b} h=>by rw[List.getElem?_take,if_pos h]
 have hO: ∀{b:Nat},¬ b<n→b<κ.H.length→(κ.ρ b).isNil=false→ ¬Owned { κ with H:=κ.H.take n } (κ.ρ b).blk:=fun {b} h1 h2 h3 ⟨b',q1,q2,q3⟩=>by
  have q1:b'<(κ.H.take n).length:=q1
  rw[length_take]at q1
  have:=hc.inj b' b (by omega) h2 q2 h3 q3
  omega
 have hk:Keep κ { S:=κ4.S,w:=κ4.w,ρ:=fun b=>if b<n then κ4.ρ b else κ.ρ b,H:=κ4.H++κ.H.drop n }:=by
  refine⟨hs.s,fun b ty cs sl hb=>?_,fun b el sz es sl hb=>?_,fun b el sz es g hb=>?_⟩
  ·by_cases h:b<n
   ·obtain⟨e1,cs',sl',e2⟩:=hs.box b ty cs sl (by rw[show({ κ with H:=κ.H.take n }:Cx).H[b]? =κ.H[b]? from htk h];exact hb)
    exact⟨by simp only[if_pos h];exact e1,cs',sl',by rw[←e2];exact hlo h⟩
   ·exact⟨by simp only[if_neg h],cs,sl,(hhi h).trans hb⟩
  ·by_cases h:b<n
   ·obtain⟨es',sl',e1,e2,e3⟩:=hs.row b el sz es sl (by rw[show({ κ with H:=κ.H.take n }:Cx).H[b]? =κ.H[b]? from htk h];exact hb)
    exact⟨es',sl',by rw[←e1];exact hlo h,e2,fun e=>by simp only[if_pos h];exact e3 e⟩
   ·exact⟨es,sl,(hhi h).trans hb,Nat.le_refl _,fun _=>by simp only[if_neg h]⟩
  ·by_cases h:b<n
   ·obtain⟨es',g',e1,e2,e3⟩:=hs.rg b el sz es g (by rw[show({ κ with H:=κ.H.take n }:Cx).H[b]? =κ.H[b]? from htk h];exact hb)
    exact⟨es',g',by rw[←e1];exact hlo h,e2,fun e=>by simp only[if_pos h];exact e3 e⟩
   ·exact⟨es,g,(hhi h).trans hb,Nat.le_refl _,fun _=>by simp only[if_neg h];exact⟨trivial,trivial⟩⟩
 have hk4:Keep κ4 { S:=κ4.S,w:=κ4.w,ρ:=fun b=>if b<n then κ4.ρ b else κ.ρ b,H:=κ4.H++κ.H.drop n }:=by
  refine⟨fun g o h=>⟨h,SameAt.refl⟩,fun b ty cs sl hb=>?_,fun b el sz es sl hb=>?_,fun b el sz es g hb=>?_⟩
  ·have h:b<n:=by have:=(List.getElem?_eq_some_iff.1 hb).1;omega
   exact⟨by simp only[if_pos h],cs,sl,(hlo h).trans hb⟩
  ·have h:b<n:=by have:=(List.getElem?_eq_some_iff.1 hb).1;omega
   exact⟨es,sl,(hlo h).trans hb,Nat.le_refl _,fun _=>by simp only[if_pos h]⟩
  ·have h:b<n:=by have:=(List.getElem?_eq_some_iff.1 hb).1;omega
   exact⟨es,g,(hlo h).trans hb,Nat.le_refl _,fun _=>by simp only[if_pos h];exact⟨trivial,trivial⟩⟩
 have hlen:(κ4.H++κ.H.drop n).length=κ.H.length:=by simp[hl];omega
 have hOw: ∀g,Owned { κ with H:=κ.H.take n } g→Owned κ g:=fun g ⟨b,q1,q2,q3⟩=>by
  have q1:b<(κ.H.take n).length:=q1
  rw[length_take]at q1
  exact⟨b,by omega,q2,q3⟩
 have hmix: ∀{b b':Nat},b<n→ ¬b'<n→b'<κ.H.length→(κ4.ρ b).isNil=false→(κ.ρ b').isNil=false→(κ4.ρ b).blk=(κ.ρ b').blk→False:=fun {b b'} h1 h2 h3 h5 h6 e=>by
  have:=hc.lt _ h3 h6
  rcases hs.own (κ4.ρ b).blk ⟨b,by omega,h5,rfl⟩with h7|h7
  ·rw[e]at h7;exact hO h2 h3 h6 h7
  ·have h7:κ.w.heap.size≤(κ4.ρ b).blk:=h7
   omega
 refine⟨⟨fun b x hb=>?_,fun b b' hb hb' hn1 hn2 e=>?_,fun b hb hn1=>?_,h4.swf,h4.gl⟩,?_⟩
 ·by_cases h:b<n
  ·have hb:κ4.H[b]? =some x:=by rw[←hlo h];exact hb
   exact(h4.blk b x hb).keep hk4 (by simp only[if_pos h]) (fun _=>rfl) (fun _ _ hs=>hs)
  ·have hb:κ.H[b]? =some x:=by rw[←hhi h];exact hb
   have hbl:=(List.getElem?_eq_some_iff.1 hb).1
   refine(hc.blk b x hb).keep hk (by simp only[if_neg h]) (fun hn1=>hs.frame _ (hc.lt b hbl hn1) (hO h hbl hn1)) (fun hn1 o hS=>?_)
   rcases hs.snew _ o hS with q|q|q
   ·exact q
   ·have:=hc.lt b hbl hn1
    have q:κ.w.heap.size≤(κ.ρ b).blk:=q
    omega
   ·exact absurd q (hO h hbl hn1)
 ·have hb:b<κ.H.length:=by rw[←hlen];exact hb
  have hb':b'<κ.H.length:=by rw[←hlen];exact hb'
  by_cases q1:b<n<;>by_cases q2:b'<n
  ·simp only[if_pos q1,if_pos q2]at hn1 hn2 e;exact h4.inj b b' (by omega) (by omega) hn1 hn2 e
  ·simp only[if_pos q1,if_neg q2]at hn1 hn2 e;exact(hmix q1 q2 hb' hn1 hn2 e).elim
  ·simp only[if_neg q1,if_pos q2]at hn1 hn2 e;exact(hmix q2 q1 hb hn2 hn1 e.symm).elim
  ·simp only[if_neg q1,if_neg q2]at hn1 hn2 e;exact hc.inj b b' hb hb' hn1 hn2 e
 ·have hb:b<κ.H.length:=by rw[←hlen];exact hb
  by_cases q1:b<n
  ·simp only[if_pos q1]at hn1 ⊢;exact h4.lt b (by omega) hn1
  ·simp only[if_neg q1]at hn1 ⊢;exact Nat.lt_of_lt_of_le (hc.lt b hb hn1) hs.size
 ·refine { hk with os:=hs.os,tape:=hs.tape,output:=hs.output,size:=hs.size,frame:=fun g hg ho=>hs.frame g hg fun h=>ho (hOw g h),snew:=fun g o hS=>(hs.snew g o hS).imp id fun h=>h.imp id (hOw g),own:=fun g ⟨b,q1,q2,q3⟩=>?_ }
  have q1:b<κ.H.length:=by rw[←hlen];exact q1
  by_cases h:b<n
  ·simp only[if_pos h]at q2 q3
   exact(hs.own g ⟨b,by omega,q2,q3⟩).imp (hOw g) id
  ·simp only[if_neg h]at q2 q3
   exact .inl ⟨b,q1,q2,q3⟩
section
variable {P:Program} {nt m:Nat} {R:Exit→St→Prop} {k:List It} {st:St}
end
theorem VL.handed{κ:Cx}(hc:Conc κ){args args':List AV}{l:List Value}(hp:AV.pureL args=true)(hf:frzL [] args args')(hv:VL κ args l):VL κ args' l:=by
 have hc0:Conc { S:=κ.S,w:=κ.w,ρ:=κ.ρ,H:=[] }:=⟨fun b x hb=>(by have hb:([]:Heap)[b]? =some x:=hb;simp at hb),fun b b' hb=>absurd hb (Nat.not_lt_zero _),fun b hb=>absurd hb (Nat.not_lt_zero _),hc.swf,hc.gl⟩
 have h1:=frzL_ok hc0 _ _ _ hf (VL.of_pvl (κ:={ S:=κ.S,w:=κ.w,ρ:=κ.ρ,H:=[] }) _ _ (PVL.of_v (κ:=κ) _ _ hp hv))
 exact VL.of_pvl (κ:=κ) _ _ (PVL.mono (S:=sealed { S:=κ.S,w:=κ.w,ρ:=κ.ρ,H:=[] }) (fun g o hs=>⟨hs.elim id (fun⟨b,hb,_⟩=>absurd hb (Nat.not_lt_zero _)),SameAt.refl⟩) _ _ h1)
section
variable {P:Program} {nt m:Nat} {R:Exit→St→Prop} {k:List Iv} {st:St} {dst:Option Nat} {rest:List COp} {env:Env} {H H':Heap}
theorem HCY.sld{l:Nat}{args:List AV}{Q:AV→Heap→Prop}{b:Nat}{el:TypeId}{sz:Nat}{es:List (List AV)}{sl:Bool}(hb:H[b]? =some (.row el sz es sl))(hp:pureE es)
  (h1:HCY P l (subL b es.length (.lst false sz es) args) (sealH b el sz es H) Q):HCY P l args H Q:=by
 intro F κ cargs hF hc hH hvl
 subst hH
 obtain⟨fn,tmps,assign,body,h2,h3⟩:=h1 F (sealC κ b el sz es) cargs hF (hc.sealRow hb hp) rfl (VL.sld hc hb hp _ _ hvl)
 refine⟨fn,tmps,assign,body,h2,h3.mono ?_⟩
 rintro e w' ⟨r,c,κ',e1,q,e2,k1,k2,k3⟩
 exact⟨r,c,κ',e1,q,e2,k1,(StepM.sealRow hc hb hp (.refl κ)).trans k2,k3⟩
theorem vcY_of{l:Nat}{args:List AV}(h:HCY P l args H fun r H'=>vc P nt m R (.ops rest::k) ⟨eput env dst r,H'⟩):vcY P nt m R l args dst rest k ⟨env,H⟩:=by unfold vcY;exact h
theorem vcY_call{l:Nat}{args args':List AV}(hy:HCY P l args' H fun r H2=>r= .bool true∧H2=H')(hp:AV.pureL args=true)(hf:frzL [] args args')(h:vc P nt m R (.ops rest::k) ⟨eput env dst (.bool true),H'⟩):vcY P nt m R l args dst rest k ⟨env,H⟩:=by
 refine vcY_of fun F κ cargs hF hc hH hvl=>?_
 obtain⟨fn,tmps,assign,body,h2,h3⟩:=hy F κ cargs hF hc hH (hvl.handed hc hp hf)
 refine⟨fn,tmps,assign,body,h2,h3.mono ?_⟩
 rintro e w' ⟨r,c,κ',e1,⟨rfl,q⟩,e2,k1,k2,k3⟩
 exact⟨_,c,κ',e1,(by rw[q];exact h),e2,k1,k2,k3⟩
end
end Go.Fl
namespace Go.Fl
attribute [go_sem] Int.toNat_natCast Nat.add_zero Nat.zero_add Bool.and_true Bool.true_and Bool.and_self Bool.not_true Bool.not_false Bool.false_and Bool.and_false Bool.false_eq_true Bool.true_eq_false List.getD_eq_getElem?_getD getElem?_map Option.getD_some length_map eq_self Nat.le_refl decide_true decide_false ne_eq not_true_eq_false not_false_eq_true imp_self List.size_toArray Array.size_empty beq_self_eq_true List.replicate_zero flatten_cons List.flatten_nil implies_true
attribute [go_sem] Nat.reduceAdd Nat.reduceSub Nat.reduceMul Nat.reduceEqDiff Nat.reduceLT Nat.reduceLeDiff Int.reduceNeg Int.reduceToNat Nat.reduceBEq List.reduceReplicate
attribute [go_sem ↓] reduceIte
open Go.RowKit
def nilZ:Rz:={ blk:=0,cap:=0,isNil:=true }
theorem Conc.nilRow{κ:Cx}(h:Conc κ)(el:TypeId)(sz:Nat)(hsz:0<sz):
  Conc { S:=κ.S,w:=κ.w,ρ:=upd κ.ρ κ.H.length nilZ,H:=κ.H++[.row el sz [] false] }∧StepM κ { S:=κ.S,w:=κ.w,ρ:=upd κ.ρ κ.H.length nilZ,H:=κ.H++[.row el sz [] false] }:=
 h.push nilZ _ rfl rfl rfl (Nat.le_refl _) (fun _ _=>rfl) (fun h=>(by cases h)) (fun hk=>by
  simp only[BlkOk,upd_same]
  exact⟨hsz,(fun e he=>(by cases he)),(fun _=>⟨rfl,trivial⟩),(fun h=>(by cases h))⟩)
theorem V.nilRow{κ:Cx}{el:TypeId}{sz:Nat}{c:Value}(hc:V κ .nilS c):V { S:=κ.S,w:=κ.w,ρ:=upd κ.ρ κ.H.length nilZ,H:=κ.H++[.row el sz [] false] } (.row κ.H.length 0) c:=by
 have hc:c= .slice none 0 0:=hc
 subst hc
 exact⟨⟨_,_,rfl⟩,el,sz,[],false,by simp,Nat.le_refl _,fun _=>by simp[rowVal,nilZ,Rz.adr]⟩
theorem Good.nilE{nt:Nat}{E:Cx}{s:St}{a:Act}{w:World}(hg:Good nt E s a w){t:Nat}(ht:eget s.env t= .nilS)(el:TypeId)(sz:Nat)(hsz:0<sz):Good nt E ⟨(t,.row s.H.length 0)::s.env,s.H++[.row el sz [] false]⟩ a w:=by
 obtain⟨κ,rfl,h2,h3,h4,h5,h6,h7,h8⟩:=hg
 obtain⟨c1,c2⟩:=h3.nilRow el sz hsz
 refine⟨{ S:=κ.S,w:=κ.w,ρ:=upd κ.ρ κ.H.length nilZ,H:=κ.H++[.row el sz [] false] },rfl,by simp only[h2],c1,h4.trans c2,h5,fun t'=>?_,h7,h8.step c2⟩
 simp only[eget]
 split
 ·rename_i e
  subst e
  have:=h6 t
  rw[ht]at this
  rw[←h2]
  exact V.nilRow this
 ·exact V.mono c2.toKeep _ _ (h6 t')
theorem Good.nilB{nt:Nat}{E:Cx}{s:St}{a:Act}{w:World}(hg:Good nt E s a w){i:Nat}{ty:TypeId}{cs:List AV}{sl:Bool}(hi:s.H[i]? =some (.box ty cs sl)){j:Nat}(hj:cs[j]? =some .nilS)(el:TypeId)(sz:Nat)(hsz:0<sz):
  Good nt E ⟨s.env,(s.H++[Blk.row el sz [] false]).set i (.box ty (cs.set j (.row s.H.length 0)) sl)⟩ a w:=by
 obtain⟨κ,rfl,h2,h3,h4,h5,h6,h7,h8⟩:=hg
 obtain⟨c1,c2⟩:=h3.nilRow el sz hsz
 have hi':κ.H[i]? =some (.box ty cs sl):=by rw[h2];exact hi
 have hlt:=(List.getElem?_eq_some_iff.1 hi').1
 have hi2:(κ.H++[Blk.row el sz [] false])[i]? =some (.box ty cs sl):=by rw[getElem?_append_left hlt];exact hi'
 obtain⟨b1,cur,b2,b3,b4,b5⟩:=h3.blk _ _ hi'
 obtain⟨d1,d2⟩:=c1.mod (w':=κ.w) i (upd κ.ρ κ.H.length nilZ i) (.box ty cs sl) (.box ty (cs.set j (.row κ.H.length 0)) sl) hi2 rfl rfl rfl (Nat.le_refl _) (fun _ _ _=>rfl) (fun _ _ _=>SameAt.refl)
  (fun hn=>⟨.inl rfl,by rw[upd_other _ _ (Nat.ne_of_lt hlt)];exact h3.lt i hlt b1⟩) ⟨rfl,rfl⟩ (fun hk=>by
   have hρ:upd (upd κ.ρ κ.H.length nilZ) i (upd κ.ρ κ.H.length nilZ i) i=κ.ρ i:=by rw[upd_same,upd_other _ _ (Nat.ne_of_lt hlt)]
   simp only[BlkOk,hρ]
   refine⟨b1,cur,b2,?_,b4,b5⟩
   have h1:=VL.mono (c2.toKeep.trans hk) _ _ b3
   refine VL.mk (by rw[length_set];exact h1.length) fun k v c hv hc=>?_
   rw[getElem?_set]at hv
   split at hv
   ·rename_i e
    subst e
    split at hv
    ·cases hv
     obtain⟨c',q1,q2⟩:=b3.get j _ hj
     rw[hc]at q1;cases q1
     exact V.mono hk _ _ (V.nilRow q2)
    ·cases hv
   ·obtain⟨c',q1,q2⟩:=h1.get k v hv
    rw[hc]at q1;cases q1
    exact q2)
 refine⟨{ S:=κ.S,w:=κ.w,ρ:=upd (upd κ.ρ κ.H.length nilZ) i (upd κ.ρ κ.H.length nilZ i),H:=(κ.H++[Blk.row el sz [] false]).set i (.box ty (cs.set j (.row κ.H.length 0)) sl) },rfl,by simp only[h2],d1,h4.trans (c2.trans d2),h5,fun t'=>V.mono (c2.trans d2).toKeep _ _ (h6 t'),h7,h8.step (c2.trans d2)⟩
theorem Good.nilL{nt:Nat}{E:Cx}{s:St}{a:Act}{w:World}(hg:Good nt E s a w){i:Nat}{ty:TypeId}{cs:List AV}{sl:Bool}(hi:s.H[i]? =some (.box ty cs sl)){j:Nat}(hj:cs[j]? =some .nilS)(sz:Nat):
  Good nt E ⟨s.env,s.H.set i (.box ty (cs.set j (.lst false sz [])) sl)⟩ a w:=by
 obtain⟨κ,rfl,h2,h3,h4,h5,h6,h7,h8⟩:=hg
 have hi':κ.H[i]? =some (.box ty cs sl):=by rw[h2];exact hi
 have hlt:=(List.getElem?_eq_some_iff.1 hi').1
 obtain⟨b1,cur,b2,b3,b4,b5⟩:=h3.blk _ _ hi'
 obtain⟨d1,d2⟩:=h3.mod (w':=κ.w) i (κ.ρ i) (.box ty cs sl) (.box ty (cs.set j (.lst false sz [])) sl) hi' rfl rfl rfl (Nat.le_refl _) (fun _ _ _=>rfl) (fun _ _ _=>SameAt.refl)
  (fun hn=>⟨.inl rfl,h3.lt i hlt b1⟩) ⟨rfl,rfl⟩ (fun hk=>by
   simp only[BlkOk,upd_same]
   refine⟨b1,cur,b2,?_,b4,b5⟩
   have h1:=VL.mono hk _ _ b3
   refine VL.mk (by rw[length_set];exact h1.length) fun k v c hv hc=>?_
   rw[getElem?_set]at hv
   split at hv
   ·rename_i e
    subst e
    split at hv
    ·cases hv
     obtain⟨c',q1,q2⟩:=b3.get j _ hj
     rw[hc]at q1;cases q1
     obtain rfl:c= .slice none 0 0:=q2
     exact⟨none,0,rfl,Nat.le_refl _,by simp[maxLen],fun _=>rfl,fun ad h=>(by cases h),fun _=>rfl,fun e h=>(by cases h)⟩
    ·cases hv
   ·obtain⟨c',q1,q2⟩:=h1.get k v hv
    rw[hc]at q1;cases q1
    exact q2)
 refine⟨{ S:=κ.S,w:=κ.w,ρ:=upd κ.ρ i (κ.ρ i),H:=κ.H.set i (.box ty (cs.set j (.lst false sz [])) sl) },rfl,by simp only[h2],d1,h4.trans d2,h5,fun t'=>V.mono d2.toKeep _ _ (h6 t'),h7,h8.step d2⟩
theorem Good.bub{nt:Nat}{E:Cx}{s:St}{a:Act}{w:World}{b:Nat}{ty:TypeId}{cs:List AV}{sl:Bool}(hg:Good nt E s a w)(hb:s.H[b]? =some (.box ty cs sl))(hp:AV.pureL cs=true):Good nt E ⟨bubEnv b cs s.env,bubH b ty cs s.H⟩ a w:=by
 obtain⟨κ,rfl,h2,h3,h4,h5,h6,h7⟩:=hg
 rw[←h2]at hb
 have hlen:(bubC κ b ty cs).H.length=κ.H.length:=by simp[bubC,bubH]
 refine⟨bubC κ b ty cs,rfl,by simp only[bubC,h2],h3.bub hb hp,StepM.bub h3 hb hp h4,h5,fun t=>?_,h7.1,fun d hd=>?_⟩
 ·simp only[eget_bubEnv]
  exact V.bub h3 hb hp _ _ (h6 t)
 ·obtain⟨D,e1,e2,e3,e4⟩:=h7.2 d hd
  exact⟨D,e1,e2,e3,fun⟨b',q1,q2⟩=>e4 ⟨b',by rw[hlen]at q1;exact q1,q2⟩⟩
theorem flatten_set1{v:AV}: ∀(es:List (List AV)) (j:Nat),(∀e∈es,e.length=1)→j<es.length→(es.set j [v]).flatten=es.flatten.set j v
 |[],j,_,h=>by simp at h
 |e::es,0,h,_=>by
  obtain⟨x,rfl⟩:=List.length_eq_one_iff.1 (h e (by simp))
  simp
 |e::es,j+1,h,hj=>by
  obtain⟨x,rfl⟩:=List.length_eq_one_iff.1 (h e (by simp))
  simp[flatten_set1 es j (fun e he=>h e (by simp[he])) (by simpa using hj)]
theorem flatten_get1{v:AV}: ∀(es:List (List AV)) (j:Nat),(∀e∈es,e.length=1)→es[j]? =some [v]→es.flatten[j]? =some v
 |[],j,_,h=>by simp at h
 |e::es,0,h,h0=>by simp at h0;subst h0;simp
 |e::es,j+1,h,hj=>by
  obtain⟨x,rfl⟩:=List.length_eq_one_iff.1 (h e (by simp))
  simpa using flatten_get1 es j (fun e he=>h e (by simp[he])) (by simpa using hj)
theorem Conc.nilG{κ:Cx}(h:Conc κ)(el:TypeId)(sz:Nat)(hsz:0<sz):
  Conc { S:=κ.S,w:=κ.w,ρ:=upd κ.ρ κ.H.length nilZ,H:=κ.H++[.rg el sz [] 0] }∧StepM κ { S:=κ.S,w:=κ.w,ρ:=upd κ.ρ κ.H.length nilZ,H:=κ.H++[.rg el sz [] 0] }:=
 h.push nilZ _ rfl rfl rfl (Nat.le_refl _) (fun _ _=>rfl) (fun h=>(by cases h)) (fun hk=>by
  simp only[BlkOk,upd_same]
  exact⟨hsz,(fun e he=>(by cases he)),(fun _=>⟨rfl,trivial⟩),(fun h=>(by cases h))⟩)
theorem V.nilG{κ:Cx}{el:TypeId}{sz:Nat}{c:Value}(hc:V κ .nilS c):V { S:=κ.S,w:=κ.w,ρ:=upd κ.ρ κ.H.length nilZ,H:=κ.H++[.rg el sz [] 0] } (.rg κ.H.length 0 0) c:=by
 have hc:c= .slice none 0 0:=hc
 subst hc
 exact⟨⟨_,_,rfl⟩,el,sz,[],0,by simp,Nat.le_refl _,fun _=>⟨Nat.le_refl _,by simp[rowVal,nilZ,Rz.adr]⟩⟩
theorem Good.nilT{nt:Nat}{E:Cx}{s:St}{a:Act}{w:World}(hg:Good nt E s a w){t:Nat}(ht:eget s.env t= .nilS)(sz:Nat):Good nt E ⟨(t,.lst false sz [])::s.env,s.H⟩ a w:=by
 obtain⟨κ,rfl,h2,h3,h4,h5,h6,h7⟩:=hg
 refine⟨κ,rfl,h2,h3,h4,h5,fun t'=>?_,h7⟩
 simp only[eget]
 split
 ·rename_i e
  subst e
  have:=h6 t
  rw[ht]at this
  have hc:a.tmps.getD t undef= .slice none 0 0:=this
  exact⟨none,0,hc,Nat.le_refl _,by simp[maxLen],fun _=>rfl,fun ad h=>(by cases h),fun _=>rfl,fun e h=>(by cases h)⟩
 ·exact h6 t'
theorem Good.nilG{nt:Nat}{E:Cx}{s:St}{a:Act}{w:World}(hg:Good nt E s a w){i:Nat}{ty:TypeId}{es:List (List AV)}{sl:Bool}(hi:s.H[i]? =some (.row ty 1 es sl)){j:Nat}(hj:es[j]? =some [.nilS])(el:TypeId)(sz:Nat)(hsz:0<sz):
  Good nt E ⟨s.env,(s.H++[Blk.rg el sz [] 0]).set i (.row ty 1 (es.set j [.rg s.H.length 0 0]) sl)⟩ a w:=by
 obtain⟨κ,rfl,h2,h3,h4,h5,h6,h7,h8⟩:=hg
 obtain⟨c1,c2⟩:=h3.nilG el sz hsz
 have hi':κ.H[i]? =some (.row ty 1 es sl):=by rw[h2];exact hi
 have hlt:=(List.getElem?_eq_some_iff.1 hi').1
 have hjl:=(List.getElem?_eq_some_iff.1 hj).1
 have hi2:(κ.H++[Blk.rg el sz [] 0])[i]? =some (.row ty 1 es sl):=by rw[getElem?_append_left hlt];exact hi'
 obtain⟨b1,b2,b3,b4⟩:=h3.blk _ _ hi'
 have hb2: ∀e∈es.set j [AV.rg κ.H.length 0 0],e.length=1:=fun e he=>by
  rcases List.mem_or_eq_of_mem_set he with he|rfl
  ·exact b2 e he
  ·rfl
 obtain⟨d1,d2⟩:=c1.mod (w':=κ.w) i (upd κ.ρ κ.H.length nilZ i) (.row ty 1 es sl) (.row ty 1 (es.set j [.rg κ.H.length 0 0]) sl) hi2 rfl rfl rfl (Nat.le_refl _) (fun _ _ _=>rfl) (fun _ _ _=>SameAt.refl)
  (fun hn=>⟨.inl rfl,by rw[upd_other _ _ (Nat.ne_of_lt hlt)]at hn ⊢;exact h3.lt i hlt hn⟩) ⟨rfl,rfl,by simp,fun _=>rfl⟩ (fun hk=>by
   have hρ:upd (upd κ.ρ κ.H.length nilZ) i (upd κ.ρ κ.H.length nilZ i) i=κ.ρ i:=by rw[upd_same,upd_other _ _ (Nat.ne_of_lt hlt)]
   simp only[BlkOk,hρ]
   refine⟨b1,hb2,fun hn=>⟨(b3 hn).1,by rw[(b3 hn).2];rfl⟩,fun hn=>?_⟩
   obtain⟨⟨cur,q1,q2,q3,q4,q5,q6⟩,q7,q8⟩:=b4 hn
   refine⟨⟨cur,q1,q2,by rw[length_set];exact q3,q4,?_,by rw[length_set];exact q6⟩,by rw[length_set];exact q7,q8⟩
   rw[length_set,flatten_set1 es j b2 hjl]
   have h1:=VL.mono (c2.toKeep.trans hk) _ _ q5
   refine VL.mk (by rw[length_set];exact h1.length) fun k v c hv hc=>?_
   rw[getElem?_set]at hv
   split at hv
   ·rename_i e
    subst e
    split at hv
    ·cases hv
     obtain⟨c',z1,z2⟩:=q5.get j _ (flatten_get1 es j b2 hj)
     rw[hc]at z1;cases z1
     exact V.mono hk _ _ (V.nilG z2)
    ·cases hv
   ·obtain⟨c',z1,z2⟩:=h1.get k v hv
    rw[hc]at z1;cases z1
    exact z2)
 refine⟨{ S:=κ.S,w:=κ.w,ρ:=upd (upd κ.ρ κ.H.length nilZ) i (upd κ.ρ κ.H.length nilZ i),H:=(κ.H++[Blk.rg el sz [] 0]).set i (.row ty 1 (es.set j [.rg κ.H.length 0 0]) sl) },rfl,by simp only[h2],d1,h4.trans (c2.trans d2),h5,fun t'=>V.mono (c2.trans d2).toKeep _ _ (h6 t'),h7,h8.step (c2.trans d2)⟩
inductive Wn(m:Nat):St→St→Prop where
 |base {s s':St} (h:Wk m s s'):Wn m s s'
 |take {s s':St} {el:TypeId} {sz:Nat} {es:List (List AV)} {sl:Bool} (b:Nat) (hb:s.H[b]? =some (.row el sz es sl)) (hp:pureE es) (h:Wn m (sealSt b el sz es s) s'):Wn m s s'
 |nilE {s s':St} (t:Nat) (el:TypeId) (sz:Nat) (ht:eget s.env t= .nilS) (hsz:0<sz) (h:Wn m ⟨(t,.row s.H.length 0)::s.env,s.H++[.row el sz [] false]⟩ s'):Wn m s s'
 |nilB {s s':St} {ty:TypeId} {cs:List AV} {sl:Bool} (i j:Nat) (el:TypeId) (sz:Nat) (hi:s.H[i]? =some (.box ty cs sl)) (hj:cs[j]? =some .nilS) (hsz:0<sz) (h:Wn m ⟨s.env,(s.H++[Blk.row el sz [] false]).set i (.box ty (cs.set j (.row s.H.length 0)) sl)⟩ s'):Wn m s s'
 |nilL {s s':St} {ty:TypeId} {cs:List AV} {sl:Bool} (i j sz:Nat) (hi:s.H[i]? =some (.box ty cs sl)) (hj:cs[j]? =some .nilS) (h:Wn m ⟨s.env,s.H.set i (.box ty (cs.set j (.lst false sz [])) sl)⟩ s'):Wn m s s'
 |nilT {s s':St} (t sz:Nat) (ht:eget s.env t= .nilS) (h:Wn m ⟨(t,.lst false sz [])::s.env,s.H⟩ s'):Wn m s s'
 |nilG {s s':St} {ty:TypeId} {es:List (List AV)} {sl:Bool} (i j:Nat) (el:TypeId) (sz:Nat) (hi:s.H[i]? =some (.row ty 1 es sl)) (hj:es[j]? =some [.nilS]) (hsz:0<sz) (h:Wn m ⟨s.env,(s.H++[Blk.rg el sz [] 0]).set i (.row ty 1 (es.set j [.rg s.H.length 0 0]) sl)⟩ s'):Wn m s s'
 |bub {s s':St} {ty:TypeId} {cs:List AV} {sl:Bool} (b:Nat) (hb:s.H[b]? =some (.box ty cs sl)) (hp:AV.pureL cs=true) (h:Wn m ⟨bubEnv b cs s.env,bubH b ty cs s.H⟩ s'):Wn m s s'
theorem Wn.good{nt m:Nat}{E:Cx}{s s':St}{a:Act}{w:World}(h:Wn m s s')(hE:E.H.length=m)(hg:Good nt E s a w):Good nt E s' a w:=by
 induction h with
 |base h=>exact h.good hE hg
 |take b hb hp _ ih=>exact ih (hg.sld hb hp)
 |nilE t el sz ht hsz _ ih=>exact ih (hg.nilE ht el sz hsz)
 |nilB i j el sz hi hj hsz _ ih=>exact ih (hg.nilB hi hj el sz hsz)
 |nilL i j sz hi hj _ ih=>exact ih (hg.nilL hi hj sz)
 |nilT t sz ht _ ih=>exact ih (hg.nilT ht sz)
 |nilG i j el sz hi hj hsz _ ih=>exact ih (hg.nilG hi hj el sz hsz)
 |bub b hb hp _ ih=>exact ih (hg.bub hb hp)
section
variable {P:Program} {nt m:Nat} {R:Exit→St→Prop} {k:List Iv} {st:St}
theorem CV.wn{st':St}(hw:Wn m st st')(h:CV P nt m R k st'):CV P nt m R k st:=
 CV.mk fun k' hr=>VC.wk (fun E a w hE hg=>hw.good hE hg) (h.of k' hr)
theorem vc_fw{c:Code}(F:Nat→St)(N:Nat)(X:Nat→Prop)(hw:Wn m st (F 0))(h0:X 0)(h: ∀j,j≤N→X j→vc P nt m R (.code c:: .back (fun s'=>j<N∧Wn m s' (F (j+1))∧X (j+1))::k) (F j)):vc P nt m R (.code (.loop c)::k) st:=by
 rw[vc_loop_eq]
 refine CV.wn hw (CV.mk fun k' hr=>?_)
 obtain⟨r,rfl,hr'⟩:=hr
 refine VC.loop (fun n s=> ∃j,j≤N∧n=N-j∧X j∧ ∀(E:Cx) (a:Act) (w:World),E.H.length=m→Good nt E s a w→Good nt E (F j) a w) N ⟨0,Nat.zero_le _,rfl,h0,fun _ _ _ _ hg=>hg⟩ ?_
 rintro n s ⟨j,hj,rfl,hx,hg⟩
 refine VC.wk (fun E a w hE hq=>hg E a w hE hq) ?_
 refine((CV.run (h j hj hx)).of _ ⟨_,rfl,_,rfl,hr'⟩).backMono ?_
 rintro s' ⟨h1,h2,h3⟩
 exact⟨N-(j+1),by omega,j+1,h1,rfl,h3,fun E a w hE hq=>h2.good hE hq⟩
theorem vc_fx{α:Type}{c:Code}(F:Nat→α→St)(N:Nat)(X:Nat→α→Prop)(x0:α)(hw:Wn m st (F 0 x0))(h0:X 0 x0)(h: ∀j x,j≤N→X j x→vc P nt m R (.code c:: .back (fun s'=> ∃x',j<N∧Wn m s' (F (j+1) x')∧X (j+1) x')::k) (F j x)):vc P nt m R (.code (.loop c)::k) st:=by
 rw[vc_loop_eq]
 refine CV.wn hw (CV.mk fun k' hr=>?_)
 obtain⟨r,rfl,hr'⟩:=hr
 refine VC.loop (fun n s=> ∃j x,j≤N∧n=N-j∧X j x∧ ∀(E:Cx) (a:Act) (w:World),E.H.length=m→Good nt E s a w→Good nt E (F j x) a w) N ⟨0,x0,Nat.zero_le _,rfl,h0,fun _ _ _ _ hg=>hg⟩ ?_
 rintro n s ⟨j,x,hj,rfl,hx,hg⟩
 refine VC.wk (fun E a w hE hq=>hg E a w hE hq) ?_
 refine((CV.run (h j x hj hx)).of _ ⟨_,rfl,_,rfl,hr'⟩).backMono ?_
 rintro s' ⟨x',h1,h2,h3⟩
 exact⟨N-(j+1),by omega,j+1,x',h1,rfl,h3,fun E a w hE hq=>h2.good hE hq⟩
theorem vc_wn{c:Code}{st':St}(h1:vc P nt m R (.code c::k) st=CV P nt m R (.code c::k) st)(hw:Wn m st st')(h:CV P nt m R (.code c::k) st'):vc P nt m R (.code c::k) st:=by
 rw[h1];exact CV.wn hw h
end
theorem HCY.of_body2{P:Program}{l nt p p2:Nat}{assign body:Code}{env:Env}{own:Heap}{x x2:AV}{H H':Heap}(hp:p<nt)(hp2:p2<nt)(hlen:H'.length=H.length)(hb:belowH H.length H)(henv:belowE H.length env)(hx:x.pure=true)(hx2:x2.pure=true)
  (h:VC P nt H.length (fun _ _=>False) [.code assign,.back (fun s=>VC P nt H.length (fun _ _=>False) [.code body,.back (fun s=>Wn H.length s ⟨[],H'⟩)] s)] ⟨(p2,x2)::(p,x)::env,H⟩):
  HCY P l [x,x2] (H++ .loop l nt #[p,p2] assign body env::own) fun r H2=>r= .bool true∧H2=H'++ .loop l nt #[p,p2] assign body env::own:=by
 intro F κ cargs hF hc hH hv
 have hn:H.length<κ.H.length:=by rw[hH];simp
 have htk:κ.H.take H.length=H:=by rw[hH];simp
 have hdr:κ.H.drop H.length= .loop l nt #[p,p2] assign body env::own:=by rw[hH];simp
 have hlb:κ.H[H.length]? =some (.loop l nt #[p,p2] assign body env):=by rw[hH];simp
 obtain⟨b1,b2,fn,tmps,dfr,b3,b4,b5,b6⟩:=hc.blk _ _ hlb
 obtain⟨cx,_,rfl,hvx,cx2,_,rfl,hvx2,hnil⟩:=hv
 rw[show _=[]from hnil]
 have hy:(Instr.yield l [cx,cx2].toArray).run P κ.w= .ok (.round l fn ((tmps.setIfInBounds p cx).setIfInBounds p2 cx2) assign body) κ.w:=by
  have:=run_yield (P:=P) (args:= #[cx,cx2]) b3 (by simp)
  simpa using this
 refine⟨fn,_,assign,body,hy,roundIn_of_wpIn (hF.fn fn) ?_⟩
 have hE0:Conc { κ with H:=κ.H.take H.length }:=hc.trunc (by rw[htk];exact hb)
 have hno: ¬Owned { κ with H:=κ.H.take H.length } l:=fun⟨b',q1,q2,q3⟩=>by
  have q1:b'<(κ.H.take H.length).length:=q1
  rw[length_take]at q1
  have:=hc.inj b' H.length (by omega) hn q2 b1 (by rw[b2];exact q3)
  omega
 have hWF:WideE (F.inRound l) { κ with H:=κ.H.take H.length }:=by
  refine⟨.inr ⟨l,?_⟩,fun l' hl'=>?_⟩
  ·rcases hF with rfl|⟨l0,rfl⟩<;>rfl
  ·simp only[Fence.inRound_round,Option.some.injEq]at hl'
   subst hl'
   exact⟨hno,_,b3⟩
 have hgood:Good nt { κ with H:=κ.H.take H.length } ⟨(p2,x2)::(p,x)::env,H⟩ { tmps:=(tmps.setIfInBounds p cx).setIfInBounds p2 cx2,defers:=[] } κ.w:=by
  refine⟨{ κ with H:=κ.H.take H.length },rfl,htk,hE0,.refl _,by simp[b4],fun t=>?_,by simp,fun d hd=>by cases hd⟩
  by_cases e2:p2=t
  ·subst e2
   simp only[eget,if_true]
   have:((tmps.setIfInBounds p cx).setIfInBounds p2 cx2).getD p2 undef=cx2:=by simp[b4,hp2]
   rw[this]
   exact V.trunc _ _ (below_pure _ _ hx2) hvx2
  ·by_cases e:p=t
   ·subst e
    simp only[eget,if_neg e2,if_true]
    have:((tmps.setIfInBounds p cx).setIfInBounds p2 cx2).getD p undef=cx:=by
     simp only[Array.getD_eq_getD_getElem?, Array.getElem?_setIfInBounds_ne e2]
     simp[b4,hp]
    rw[this]
    exact V.trunc _ _ (below_pure _ _ hx) hvx
   ·simp only[eget,if_neg e,if_neg e2]
    have:((tmps.setIfInBounds p cx).setIfInBounds p2 cx2).getD t undef=tmps.getD t undef:=by
     simp only[Array.getD_eq_getD_getElem?, Array.getElem?_setIfInBounds_ne e,Array.getElem?_setIfInBounds_ne e2]
    rw[this]
    exact V.trunc _ _ (belowE_get t henv) (b5 t)
 have hm:({ κ with H:=κ.H.take H.length }:Cx).H.length=H.length:=by show(κ.H.take H.length).length=_;rw[htk]
 refine wpIn_mono (h (F.inRound l) _ _ κ.w hWF hm hgood) ?_
 intro e a1 w1 hp1
 cases e with
 |normal=>
  obtain⟨s1,hbody,hg1⟩:=hp1
  obtain⟨hl1,hg2⟩:=Good.put2 (hg:=hg1) (E:={ κ with H:=κ.H.take H.length }) (o':= .loop { state:= .busy,pending:=none,fn:=fn,tmps:=tmps,params:= #[p,p2],assign:=assign,body:=body,defers:=dfr }) b3 rfl rfl hno
  refine⟨_,run_beginRound hl1 rfl,?_⟩
  have hbl:(κ.w.putObj l (.loop { state:= .busy,pending:=none,fn:=fn,tmps:=tmps,params:= #[p,p2],assign:=assign,body:=body,defers:=dfr })).heap[l]? =some (.loop { state:= .busy,pending:=none,fn:=fn,tmps:=tmps,params:= #[p,p2],assign:=assign,body:=body,defers:=dfr }):=World.putObj_heap_same (Array.getElem?_eq_some_iff.1 b3).1
  have hWF2:WideE (F.inRound l) { κ with H:=κ.H.take H.length,w:=κ.w.putObj l (.loop { state:= .busy,pending:=none,fn:=fn,tmps:=tmps,params:= #[p,p2],assign:=assign,body:=body,defers:=dfr }) }:=by
   refine⟨hWF.1,fun l' hl'=>?_⟩
   simp only[Fence.inRound_round,Option.some.injEq]at hl'
   subst hl'
   exact⟨hno,_,hbl⟩
  refine wpIn_mono (hbody (F.inRound l) _ a1 _ hWF2 hm hg2) ?_
  intro e a3 w3 hp3
  cases e with
  |normal=>
   obtain⟨s3,hw3,hg3⟩:=hp3
   have hg4:=hw3.good (E:={ κ with H:=κ.H.take H.length,w:=κ.w.putObj l (.loop { state:= .busy,pending:=none,fn:=fn,tmps:=tmps,params:= #[p,p2],assign:=assign,body:=body,defers:=dfr }) }) hm hg3
   obtain⟨hl3,hg5⟩:=Good.put2 (hg:=hg4) (E:={ κ with H:=κ.H.take H.length,w:=κ.w.putObj l (.loop { state:= .busy,pending:=none,fn:=fn,tmps:=tmps,params:= #[p,p2],assign:=assign,body:=body,defers:=dfr }) }) (o':= .loop { state:= .ready,pending:=none,fn:=fn,tmps:=tmps,params:= #[p,p2],assign:=assign,body:=body,defers:=dfr }) hbl rfl rfl hno
   refine⟨_,_,run_endRound none hl3,?_⟩
   have hback:({ κ with H:=κ.H.take H.length,w:=(κ.w.putObj l (.loop { state:= .busy,pending:=none,fn:=fn,tmps:=tmps,params:= #[p,p2],assign:=assign,body:=body,defers:=dfr })).putObj l (.loop { state:= .ready,pending:=none,fn:=fn,tmps:=tmps,params:= #[p,p2],assign:=assign,body:=body,defers:=dfr }) }:Cx)={ κ with H:=κ.H.take H.length }:=by
    rw[putObj_back b3]
   have hg5:=hback▸hg5
   obtain⟨κ4,e1,e2,e3,e4,_⟩:=hg5
   have hl4:κ4.H.length=H.length:=by rw[e2];exact hlen
   obtain⟨j1,j2⟩:=join hc e3 e4 hl4 (by omega)
   refine⟨.bool true,.bool true,{ S:=κ4.S,w:=κ4.w,ρ:=fun b=>if b<H.length then κ4.ρ b else κ.ρ b,H:=κ4.H++κ.H.drop H.length },rfl,⟨rfl,?_⟩,e1,j1,j2,rfl⟩
   show κ4.H++κ.H.drop H.length=_
   rw[e2,hdr]
  |ret=>obtain⟨_,hf,_⟩:=hp3;exact hf.elim
  |exit id=>obtain⟨_,hf,_⟩:=hp3;exact hf.elim
  |goto t=>obtain⟨_,hf,_⟩:=hp3;exact hf.elim
  |panic c=>obtain⟨_,hf,_⟩:=hp3;exact hf.elim
  |outgrown=>obtain⟨_,hf,_⟩:=hp3;exact hf.elim
 |ret=>obtain⟨_,hf,_⟩:=hp1;exact hf.elim
 |exit id=>obtain⟨_,hf,_⟩:=hp1;exact hf.elim
 |goto t=>obtain⟨_,hf,_⟩:=hp1;exact hf.elim
 |panic c=>obtain⟨_,hf,_⟩:=hp1;exact hf.elim
 |outgrown=>obtain⟨_,hf,_⟩:=hp1;exact hf.elim
section
variable {P:Program} {nt m:Nat} {R:Exit→St→Prop} {k:List It} {st:St}
theorem enter_loopP{E κ:Cx}{F:Fence}{a:Act}{ps:Array Tmp}{assign body:Code}(hF:WideE F E)(hs:StepM E κ)(fn:FuncId):
  ∃l mark w1,(Instr.enterLoop fn a.tmps ps assign body F.round).run P κ.w= .ok (l,mark) w1∧w1.os=κ.w.os∧w1.tape=κ.w.tape∧w1.output=κ.w.output∧κ.w.heap.size≤l∧l<w1.heap.size∧
   (∀g,g<κ.w.heap.size→w1.heap[g]? =κ.w.heap[g]?)∧(∃dfr,w1.heap[l]? =some (.loop { state:= .ready,pending:=none,fn:=fn,tmps:=a.tmps,params:=ps,assign:=assign,body:=body,defers:=dfr }))∧
   (mark=[]∨ ∃D,mark=[{ target:= .collected D,args:= #[] }]∧κ.w.heap.size≤D∧D≠l∧w1.heap[D]? =some (.deferred (some []))):=by
 cases hr:F.round with
 |none=>
  refine⟨_,_,_,run_enterLoop_outer _ _ _ _ _,rfl,rfl,rfl,by omega,by simp[World.size_alloc],fun g hg=>?_,⟨κ.w.heap.size,?_⟩,.inr ⟨κ.w.heap.size,rfl,Nat.le_refl _,by omega,?_⟩⟩
  ·rw[Below.heap_alloc _ _ _ (by simp[World.size_alloc];omega),Below.heap_alloc _ _ _ hg]
  ·have:=World.alloc_heap_new (κ.w.alloc (.deferred (some []))) (.loop { state:= .ready,pending:=none,fn:=fn,tmps:=a.tmps,params:=ps,assign:=assign,body:=body,defers:=κ.w.heap.size })
   rwa[World.size_alloc]at this
  ·exact(Below.heap_alloc _ _ _ (by simp)).trans (World.alloc_heap_new κ.w _)
 |some l0=>
  obtain⟨hno,r0,h0⟩:=hF.2 l0 hr
  have hlt:=(Array.getElem?_eq_some_iff.1 h0).1
  have h1:κ.w.heap[l0]? =some (.loop r0):=by rw[hs.frame l0 hlt hno];exact h0
  refine⟨_,_,_,run_enterLoop_inner h1 _ _ _ _ _,rfl,rfl,rfl,Nat.le_refl _,by simp[World.size_alloc],fun g hg=>Below.heap_alloc _ _ _ hg,⟨_,World.alloc_heap_new κ.w _⟩,.inl rfl⟩
theorem VC.rangeP{g:Operand}{ps:Array Tmp}{assign body:Code}{gf:Nat}{caps:List AV}(hg:evA st.env g= .fn gf caps)(hm:m≤st.H.length)
  (h: ∀l,HCH P gf (.yld l::caps) (st.H++[.loop l nt ps assign body st.env]) fun r H'=>
   ∃H2 rest,H'=H2++ .loop l nt ps assign body st.env::rest∧H2.length=st.H.length∧belowH H2.length H2∧belowE H2.length st.env∧VC P nt m R k ⟨st.env,H2⟩):
  VC P nt m R (.code (.rangeFunc g ps assign body)::k) st:=by
 intro F E a w hF hE hgd
 obtain⟨κ,rfl,h2,h3,h4,h5,h6,h7,h8⟩:=hgd.rho
 simp only[post]
 refine wpIn_rangeFunc ?_
 intro fn _
 obtain⟨l,mark,w1,q1,q2,q3,q4,q5,q6,q7,⟨dfr,q8⟩,q9⟩:=enter_loopP (P:=P) (a:=a) (ps:=ps) (assign:=assign) (body:=body) hF h4 fn
 have hfv:=h8.ev g
 rw[hg]at hfv
 obtain⟨cc,e1,hl⟩:=hfv
 obtain⟨c1,s1⟩:=h3.push (w':=w1) { blk:=l,cap:=0,isNil:=false } (.loop l nt ps assign body st.env) q2 q3 q4 (by omega) q7 (fun _=>⟨q5,q6⟩) (fun hk=>by
  simp only[BlkOk,upd_same]
  refine⟨trivial,trivial,fn,a.tmps,dfr,q8,h5,fun t=>V.mono hk _ _ (h6 t),fun o hS=>?_⟩
  have:=h3.swf l o hS;omega)
 have hcall:=(h l).2 { S:=κ.S,w:=w1,ρ:=upd κ.ρ κ.H.length { blk:=l,cap:=0,isNil:=false },H:=κ.H++[.loop l nt ps assign body st.env] } (.func (.yield l) #[] #[]::cc.toList) c1 (by simp only[h2]) ⟨_,_,rfl,rfl,VL.mono s1.toKeep _ _ hl⟩
 refine⟨l,mark,w1,{ target:= .fn (.func gf) cc,args:= #[.func (.yield l) #[] #[]] },w1,gf,#[.func (.yield l) #[] #[]]++cc,w1,q1,?_,?_,?_,?_,?_⟩
 ·simp only[resolve,e1]
  simp[go_sem]
 ·intro f' hf';exact hF.1.fn _
 ·simp[invoke,go_sem,(h l).1]
 ·intro hd;rw[hF.1.depth]at hd;cases hd
 ·have hargs:(.func (.yield l) #[] #[]::cc.toList:List Value).toArray= #[.func (.yield l) #[] #[]]++cc:=by apply Array.toList_inj.1;simp
  rw[hargs]at hcall
  refine hF.1.calls (hcall.mono ?_)
  rintro e w' ⟨r,c,κ',rfl,⟨H2,rest,hH,hlen,hbH,hbE,hv⟩,rfl,k1,k2,_⟩
  have hn:H2.length<κ'.H.length:=by rw[hH];simp
  have htk:κ'.H.take H2.length=H2:=by rw[hH];simp
  have hlb:κ'.H[H2.length]? =some (.loop l nt ps assign body st.env):=by rw[hH];simp
  obtain⟨b1,b2,fn',tmps',dfr',b3,_⟩:=k1.blk _ _ hlb
  refine⟨_,_,run_endLoop b3 (by simp),?_⟩
  have s2:=h4.trans (s1.trans k2)
  have hct:Conc { κ' with H:=κ'.H.take H2.length }:=k1.trunc (by rw[htk];exact hbH)
  have hno: ¬Owned { κ' with H:=κ'.H.take H2.length } l:=fun⟨b',r1,r2,r3⟩=>by
   have r1:b'<(κ'.H.take H2.length).length:=r1
   rw[length_take]at r1
   have:=k1.inj b' H2.length (by omega) hn r2 b1 (by rw[b2];exact r3)
   omega
  obtain⟨d1,d2,d3⟩:=hct.putObj (o':= .loop { state:= .exhausted,pending:=none,fn:=fn',tmps:=tmps',params:=ps,assign:=assign,body:=body,defers:=dfr' }) b3 rfl rfl hno
  have hEm:E.H.length≤H2.length:=by omega
  have hsz:E.w.heap.size≤l:=Nat.le_trans h4.size q5
  refine hv F E _ _ hF hE ⟨_,rfl,htk,d1,d2 E hsz (s2.trunc hEm),h5,fun t=>?_,?_,?_⟩
  ·exact V.mono d3 _ _ (V.trunc _ _ (belowE_get t hbE) (V.mono (s1.trans k2).toKeep _ _ (h6 t)))
  ·rcases q9 with rfl|⟨D,rfl,q10,_⟩
   ·exact h7.1
   ·refine List.nodup_cons.2 ⟨fun hmem=>?_,h7.1⟩
    obtain⟨D',z1,z2,_⟩:=h7.2 _ hmem
    have:=(Array.getElem?_eq_some_iff.1 z2).1
    have:D=D':=by simpa using z1
    omega
  ·have old: ∀D,κ'.w.heap[D]? =some (.deferred (some []))→E.w.heap.size≤D→ ¬Owned κ' D→D≠l→ ∃D',({ target:= .collected D,args:= #[] }:Deferred)={ target:= .collected D',args:= #[] }∧(κ'.w.putObj l (.loop { state:= .exhausted,pending:=none,fn:=fn',tmps:=tmps',params:=ps,assign:=assign,body:=body,defers:=dfr' })).heap[D']? =some (.deferred (some []))∧E.w.heap.size≤D'∧ ¬Owned { κ' with H:=κ'.H.take H2.length,w:=κ'.w.putObj l (.loop { state:= .exhausted,pending:=none,fn:=fn',tmps:=tmps',params:=ps,assign:=assign,body:=body,defers:=dfr' }) } D':=fun D z1 z2 z3 z4=>by
    refine⟨D,rfl,by rw[World.putObj_heap_other z4];exact z1,z2,fun⟨b',r1,r2,r3⟩=>z3 ⟨b',?_,r2,r3⟩⟩
    have r1:b'<(κ'.H.take H2.length).length:=r1
    rw[length_take]at r1
    omega
   intro d hd
   rcases List.mem_append.1 hd with hd|hd
   ·rcases q9 with rfl|⟨D,rfl,q10,q11,q12⟩
    ·cases hd
    ·have:d={ target:= .collected D,args:= #[] }:=by simpa using hd
     subst this
     have hD1: ¬Owned { S:=κ.S,w:=w1,ρ:=upd κ.ρ κ.H.length { blk:=l,cap:=0,isNil:=false },H:=κ.H++[.loop l nt ps assign body st.env] } D:=fun⟨b',r1,r2,r3⟩=>by
      have r1:b'<(κ.H++[Blk.loop l nt ps assign body st.env]).length:=r1
      simp only[List.length_append,length_cons,List.length_nil]at r1
      by_cases e:b'=κ.H.length
      ·subst e;simp only[upd_same]at r3;omega
      ·simp only[upd_other κ.ρ _ e]at r2 r3
       have:=h3.lt b' (by omega) r2;omega
     have hDlt:=(Array.getElem?_eq_some_iff.1 q12).1
     refine old D ?_ (Nat.le_trans h4.size q10) (fun ho=>?_) q11
     ·rw[k2.frame D hDlt hD1];exact q12
     ·rcases k2.own D ho with z|z
      ·exact hD1 z
      ·have z:w1.heap.size≤D:=z
       omega
   ·have hms:=h7.2.step (s1.trans k2)
    obtain⟨D,z1,z2,z3,z4⟩:=hms d hd
    subst z1
    obtain⟨D',y1,y2,_⟩:=h7.2 _ hd
    have hDD:D=D':=by simpa using y1
    have:=(Array.getElem?_eq_some_iff.1 y2).1
    exact old D z2 z3 z4 (by omega)
end
section
variable {κ:Cx} {n q:Nat} {el:TypeId} {sz:Nat} {es:List (List AV)} {sl:Bool}
end
section
variable {P:Program} {nt m:Nat} {R:Exit→St→Prop} {k:List Iv} {st:St} {dst:Option Nat} {rest:List COp} {env:Env} {H H':Heap}
theorem HCY.body2{l p p2:Nat}{assign body:Code}{own:Heap}{x x2:AV}(hp:p<nt)(hp2:p2<nt)(hlen:H'.length=H.length)(hb:belowH H.length H)(henv:belowE H.length env)(hx:x.pure=true)(hx2:x2.pure=true)
  (h:vc P nt H.length (fun _ _=>False) [.code assign,.back (fun s=>vc P nt H.length (fun _ _=>False) [.code body,.back (fun s=>Wn H.length s ⟨[],H'⟩)] s)] ⟨(p2,x2)::(p,x)::env,H⟩):
  HCY P l [x,x2] (H++ .loop l nt #[p,p2] assign body env::own) fun r H2=>r= .bool true∧H2=H'++ .loop l nt #[p,p2] assign body env::own:=
 HCY.of_body2 hp hp2 hlen hb henv hx hx2 (((CV.run h).of _ ⟨_,rfl,_,rfl,rfl⟩).backMono fun s hs=>(CV.run hs).of _ ⟨_,rfl,_,rfl,rfl⟩)
theorem CV.rangeP{g:Operand}{ps:Array Tmp}{assign body:Code}{gf:Nat}{caps:List AV}(hg:evA st.env g= .fn gf caps)(hm:m≤st.H.length)(H2:Heap)(hlen:H2.length=st.H.length)(hbH:belowH H2.length H2)(hbE:belowE H2.length st.env)
  (h: ∀l,HCH P gf (.yld l::caps) (st.H++[.loop l nt ps assign body st.env]) fun r H'=> ∃rest,H'=H2++ .loop l nt ps assign body st.env::rest) (hv:vc P nt m R k ⟨st.env,H2⟩):
  CV P nt m R (.code (.rangeFunc g ps assign body)::k) st:=by
 refine CV.mk fun k' hr=>?_
 obtain⟨r,rfl,hr'⟩:=hr
 refine VC.rangeP hg hm fun l=>(h l).mono ?_
 rintro r0 H' ⟨rest,e⟩
 exact⟨H2,rest,e,hlen,hbH,hbE,(CV.run hv).of _ hr'⟩
end
theorem HCH.sealRow{P:Program}{g:FuncId}{args:List AV}{Q:AV→Heap→Prop}{H:Heap}{b:Nat}{el:TypeId}{sz:Nat}{es:List (List AV)}{sl:Bool}(hb:H[b]? =some (.row el sz es sl))(hp:pureE es)
  (h1:HCH P g (subL b es.length (.lst false sz es) args) (sealH b el sz es H) Q):HCH P g args H Q:=by
 refine⟨h1.1,fun κ cargs hc hH hvl=>?_⟩
 subst hH
 refine(h1.2 (sealC κ b el sz es) cargs (hc.sealRow hb hp) rfl (VL.sld hc hb hp _ _ hvl)).mono ?_
 rintro e w' ⟨r,c,κ',e1,q,e2,k1,k2,k3⟩
 exact⟨r,c,κ',e1,q,e2,k1,(StepM.sealRow hc hb hp (.refl κ)).trans k2,k3⟩
end Go.Fl
namespace Go.Fl
open Classical
theorem maxLen_eq:maxLen=9223372036854775807:=rfl
attribute [go_sem] maxLen_eq
theorem PC.dec{P:Program}{g:FuncId}{a:List AV}{p:Prop}{i j:Decidable p}(h:PC P g a (.bool (@decide p i))):PC P g a (.bool (@decide p j)):=by
 have:i=j:=Subsingleton.elim _ _
 subst this;exact h
theorem PC.frz{P:Program}{g:FuncId}{args args':List AV}{v:AV}(h:PC P g args' v)(hv:v.pure=true)(hs:safeV v=true)(hf:frzL [] args args'):PC P g args v:=by
 unfold PC at h ⊢
 refine(HCH.freeze h hf (fun r H' hq=>⟨by rw[hq.1];exact hs,by rw[hq.2];simp[safeH]⟩)).mono ?_
 rintro r H' ⟨r0,H0,⟨rfl,rfl⟩,rfl,rfl⟩
 exact⟨shiftV_pure _ _ hv,rfl⟩
def encN(n:Int):List AV:=[.int .i64 n]
theorem pureN(l:List Int):pureE (l.map encN)=True:=pureE_map fun _=>rfl
abbrev lN(l:List Int):AV:= .lst false 1 (l.map encN)
theorem get_of{α:Type}{l:List α}{j:Nat}(h:j<l.length): ∃a,l[j]? =some a:=⟨_,getElem?_eq_getElem h⟩
def within(n lo hi:Int):Prop:=lo≤n∧n≤hi
def risingAt(l:List Int)(lo hi:Int)(j:Nat):Prop:= ∃a,l[j]? =some a∧within a lo hi∧(0<j→ ∃b,l[j-1]? =some b∧b<a)
def rising(l:List Int)(lo hi:Int):Prop:= ∀j,j<l.length→risingAt l lo hi j
attribute [go_sem] pureN
def firstAt{α:Type}(q:α→Prop)(l:List α)(j:Nat):Prop:=(∃a,l[j]? =some a∧q a)∧ ∀i,i<j→ ∀b,l[i]? =some b→ ¬q b
noncomputable def ix{α:Type}(q:α→Prop)(l:List α):Int:=if h: ∃j,firstAt q l j then(Classical.choose h:Nat)else-1
theorem ix_at{α:Type}{q:α→Prop}{l:List α}{j:Nat}(h:firstAt q l j):ix q l=j:=by
 have hx: ∃j,firstAt q l j:=⟨j,h⟩
 unfold ix
 rw[dif_pos hx]
 have hs:=Classical.choose_spec hx
 generalize Classical.choose hx=k at hs
 obtain⟨⟨a,h1,h2⟩,h3⟩:=h
 obtain⟨⟨b,h4,h5⟩,h6⟩:=hs
 rcases Nat.lt_trichotomy j k with hl|hl|hl
 ·exact absurd h2 (h6 j hl a h1)
 ·rw[hl]
 ·exact absurd h5 (h3 k hl b h4)
theorem ix_no{α:Type}{q:α→Prop}{l:List α}(h: ∀(i:Nat) (b:α),l[i]? =some b→ ¬q b):ix q l= -1:=by
 unfold ix
 rw[dif_neg]
 rintro⟨j,⟨a,h1,h2⟩,_⟩
 exact h j a h1 h2
theorem first_of{α:Type}{q:α→Prop}{l:List α}(h: ∃a,a∈l∧q a): ∃j,firstAt q l j:=by
 obtain⟨a,ha,hq⟩:=h
 obtain⟨i,hi⟩:=List.mem_iff_getElem?.1 ha
 induction i using Nat.strongRecOn generalizing a with
 |_ i ih=>
  by_cases hx: ∃j,j<i∧ ∃b,l[j]? =some b∧q b
  ·obtain⟨j,hj,b,hb,hqb⟩:=hx
   exact ih j hj b (List.mem_of_getElem? hb) hqb hb
  ·exact⟨i,⟨a,hi,hq⟩,fun j hj b hb hqb=>hx ⟨j,hj,b,hb,hqb⟩⟩
theorem ix_ge{α:Type}{q:α→Prop}{l:List α}:0≤ix q l↔ ∃a,a∈l∧q a:=by
 by_cases h: ∃a,a∈l∧q a
 ·obtain⟨j,hj⟩:=first_of h
  rw[ix_at hj]
  exact⟨fun _=>h,fun _=>by omega⟩
 ·rw[ix_no (fun i b hb hq=>h ⟨b,List.mem_of_getElem? hb,hq⟩)]
  exact⟨fun h=>by omega,fun h'=>absurd h' h⟩
theorem bn{p q:Prop}{i:Decidable p}{j:Decidable q}(h:q↔ ¬p):AV.bool (!@decide p i)=AV.bool (@decide q j):=by
 by_cases hp:p<;>simp[h,hp]
def oA(b:Nat)(l:List Int):AV:=match l with|[]=> .nilS|l=> .row b l.length
def oH(l:List Int):Heap:=match l with|[]=>[]|l=>[.row 3 1 (l.map encN) false]
theorem oA_nil{b:Nat}:oA b []= .nilS:=rfl
theorem oA_cons{b:Nat}{x:Int}{r:List Int}:oA b (x::r)= .row b (r.length+1):=rfl
theorem oH_nil:oH []=[]:=rfl
theorem oH_cons{x:Int}{r:List Int}:oH (x::r)=[.row 3 1 (encN x::r.map encN) false]:=rfl
theorem sub_mapN{b n:Nat}{v:AV}{l:List Int}:List.map (subL b n v) (List.map encN l)=List.map encN l:=by
 rw[map_map];exact List.map_congr_left fun a _=>by simp[encN,subL,subV]
theorem subEnv_go{b n:Nat}{l:AV}{env:Env}:subEnv b n l env=env.map fun p=>(p.1,subV b n l p.2):=rfl
attribute [go_sem] oA_nil oA_cons oH_nil oH_cons sub_mapN
def allTo{α:Type}(p:Nat→α→Prop)(l:List α)(j:Nat):Prop:= ∀i x,i<j→l[i]? =some x→p i x
theorem allTo.zero{α:Type}{p:Nat→α→Prop}{l:List α}:allTo p l 0:=fun i x h=>by omega
theorem allTo.succ{α:Type}{p:Nat→α→Prop}{l:List α}{j:Nat}{x:α}(h:allTo p l j)(hx:l[j]? =some x)(hp:p j x):allTo p l (j+1):=fun i y hi hy=>by
 rcases Nat.lt_or_ge i j with h2|h2
 ·exact h i y h2 hy
 ·have:i=j:=by omega
  subst this
  rw[hx]at hy;cases hy;exact hp
theorem allTo.all{α:Type}{p:Nat→α→Prop}{l:List α}{j:Nat}(h:allTo p l j)(hj:l.length≤j): ∀(i:Nat) (x:α),l[i]? =some x→p i x:=fun i x hx=>h i x (by have:=(List.getElem?_eq_some_iff.1 hx).1;omega) hx
theorem allTo.mem{α:Type}{p:α→Prop}{l:List α}{j:Nat}(h:allTo (fun _=>p) l j)(hj:l.length≤j): ∀x,x∈l→p x:=fun x hx=>by
 obtain⟨i,hi⟩:=List.mem_iff_getElem?.1 hx
 exact h.all hj i x hi
def gv(s:List Int)(i:Int):Int:=(s[i.toNat]?).getD 0
theorem gv_nat{s:List Int}{i:Nat}{x:Int}(h:s[i]? =some x):gv s i=x:=by simp[gv,h]
def selB(p:Nat→Bool)(n:Nat):List Int:=((List.range n).filter p).map fun(i:Nat)=>(i:Int)
theorem selB_zero{p:Nat→Bool}:selB p 0=[]:=rfl
theorem selB_succ{p:Nat→Bool}{n:Nat}:selB p (n+1)=selB p n++(if p n=true then [(n:Int)]else []):=by
 simp only[selB,List.range_succ,List.filter_append,map_append]
 by_cases h:p n=true
 ·simp[h]
 ·simp[h]
theorem selB_yes{p:Nat→Bool}{n:Nat}(h:p n=true):selB p (n+1)=selB p n++[(n:Int)]:=by simp[selB_succ,h]
theorem selB_no{p:Nat→Bool}{n:Nat}(h:p n≠true):selB p (n+1)=selB p n:=by simp[selB_succ,h]
theorem selB_len(p:Nat→Bool)(n:Nat):(selB p n).length≤n:=by
 have:=List.length_filter_le p (List.range n)
 simpa[selB]using this
theorem selB_mem{p:Nat→Bool}{n:Nat}{x:Int}:x∈selB p n↔ ∃i:Nat,i<n∧x=(i:Int)∧p i=true:=by
 simp only[selB,mem_map,List.mem_filter,List.mem_range]
 constructor
 ·rintro⟨i,⟨h1,h2⟩,rfl⟩;exact⟨i,h1,rfl,h2⟩
 ·rintro⟨i,h1,rfl,h2⟩;exact⟨i,⟨h1,h2⟩,rfl⟩
theorem tB{b:Bool}(h:b=true):AV.bool true=AV.bool b:=by rw[h]
theorem fB{b:Bool}(h:b≠true):AV.bool false=AV.bool b:=by
 cases b
 ·rfl
 ·exact absurd rfl h
def low:List Int→Int
 |[]=>0
 |x::r=>r.foldl min x
def high:List Int→Int
 |[]=>0
 |x::r=>r.foldl max x
theorem low_app{l:List Int}{x:Int}:low (l++[x])=if l=[]then x else min (low l) x:=by
 cases l with
 |nil=>rfl
 |cons y r=>simp[low,List.foldl_append]
theorem high_app{l:List Int}{x:Int}:high (l++[x])=if l=[]then x else max (high l) x:=by
 cases l with
 |nil=>rfl
 |cons y r=>simp[high,List.foldl_append]
theorem foldl_min(r:List Int): ∀x:Int,(r.foldl min x=x∨r.foldl min x∈r)∧r.foldl min x≤x∧ ∀y,y∈r→r.foldl min x≤y:=by
 induction r with
 |nil=>intro x;simp
 |cons z r ih=>
  intro x
  obtain⟨h1,h2,h3⟩:=ih (min x z)
  simp only[List.foldl_cons]
  refine⟨?_,by omega,fun y hy=>?_⟩
  ·rcases h1 with h1|h1
   ·rcases Int.le_total x z with h|h
    ·exact .inl (by omega)
    ·exact .inr (by rw[h1];simp;omega)
   ·exact .inr (by simp[h1])
  ·rcases List.mem_cons.1 hy with rfl|hy
   ·omega
   ·exact h3 y hy
theorem foldl_max(r:List Int): ∀x:Int,(r.foldl max x=x∨r.foldl max x∈r)∧x≤r.foldl max x∧ ∀y,y∈r→y≤r.foldl max x:=by
 induction r with
 |nil=>intro x;simp
 |cons z r ih=>
  intro x
  obtain⟨h1,h2,h3⟩:=ih (max x z)
  simp only[List.foldl_cons]
  refine⟨?_,by omega,fun y hy=>?_⟩
  ·rcases h1 with h1|h1
   ·rcases Int.le_total x z with h|h
    ·exact .inr (by rw[h1];simp;omega)
    ·exact .inl (by omega)
   ·exact .inr (by simp[h1])
  ·rcases List.mem_cons.1 hy with rfl|hy
   ·omega
   ·exact h3 y hy
theorem low_mem{l:List Int}(h:l≠[]):low l∈l:=by
 cases l with
 |nil=>exact absurd rfl h
 |cons x r=>
  rcases(foldl_min r x).1 with e|e
  ·simp only[low];rw[e];simp
  ·simp only[low];exact List.mem_cons_of_mem _ e
theorem high_mem{l:List Int}(h:l≠[]):high l∈l:=by
 cases l with
 |nil=>exact absurd rfl h
 |cons x r=>
  rcases(foldl_max r x).1 with e|e
  ·simp only[high];rw[e];simp
  ·simp only[high];exact List.mem_cons_of_mem _ e
def I(x:Int):AV:= .int .i64 x
theorem pureL_mapI: ∀s:List Int,AV.pureL (s.map I)=true
 |[]=>rfl
 |x::s=>by have:=pureL_mapI s;simpa[AV.pureL,AV.pure,I]using this
theorem frzL_mapI{H:Heap}{s:List Int}:frzL H (s.map I) (s.map I)=True:=by simp[frzL_self H _ (pureL_mapI s)]
theorem belowL_mapI{n:Nat}{s:List Int}:(belowL n (s.map I)=true)=True:=by simp[belowL_pure n _ (pureL_mapI s)]
theorem frL_mapI{h:List AV→List AV}{H:Heap}: ∀{s:List Int},frL h H (s.map I)=s.map I
 |[]=>rfl
 |x::s=>by have:=frL_mapI (h:=h) (H:=H) (s:=s);simpa[frL,frV,I]using this
theorem allOne_mapI: ∀{s:List Int},(s.map I).all AV.oneA=true
 |[]=>rfl
 |x::s=>by simp[AV.oneA,I]
theorem lenL_mapI: ∀{s:List Int},lenL (s.map I)=True
 |[]=>rfl
 |x::s=>by have:=lenL_mapI (s:=s);simpa[lenL,lenV,I]using this
theorem drop_head{l:List AV}{n:Nat}:(l.drop n).head? =l[n]? :=by simp
theorem getI{s:List Int}{k:Nat}:(s.map I)[k]? =(s[k]?).map I:=by simp
theorem put0{s:List Int}{k:Nat}{v:Int}(hk:k<s.length):List.take k (s.map I)++[.int .i64 v]++List.drop (k+1) (s.map I)=(s.set k v).map I:=by
 rw[List.map_set,List.set_eq_take_append_cons_drop,if_pos (by simpa using hk)]
 simp[I]
theorem put5{a b c d e:AV}{s:List Int}{k:Nat}{v:Int}(hk:k<s.length):List.take (5+k) (a::b::c::d::e::s.map I)++[.int .i64 v]++List.drop (5+k) (b::c::d::e::s.map I)=a::b::c::d::e::(s.set k v).map I:=by
 rw[←put0 hk,Nat.add_comm 5 k]
 simp
theorem get5'{a b c d e:AV}{s:List Int}{k:Nat}:(a::b::c::d::e::s.map I)[5+k]? =(s[k]?).map I:=by
 rw[Nat.add_comm 5 k];simp
theorem subL_mapI{b n:Nat}{l:AV}{s:List Int}:subL b n l (s.map I)=s.map I:=subL_pure b n l _ (pureL_mapI s)
theorem pureE_mapI{l:List (List Int)}:pureE (l.map fun s=>s.map I)=True:=pureE_map fun s=>pureL_mapI s
attribute [go_sem] pureL_mapI belowL_mapI frL_mapI frzL_mapI allOne_mapI lenL_mapI subL_mapI pureE_mapI get5'
theorem HCH.bodyN{P:Program}{f:FuncId}{fn:Func}{c:Code}{args:List AV}{H:Heap}{Q:AV→Heap→Prop}(hf:P.funcs[f]? =some fn)(hname:(fn.name == "runtime.NumGoroutine")=false)(hb:fn.body=some c)(hn:args.length≤fn.ntmps)
  (h:CV P fn.ntmps H.length (fun e s=> ∃s',Wn H.length s s'∧Ret P fn.results.toList Q e s') [.code c] ⟨argEnv 0 args,H⟩):HCH P f args H Q:=by
 refine HCH.body hf hname hb hn (CV.mk fun k' hr=>?_)
 obtain⟨r,rfl,hr'⟩:=hr
 have hr':r=[]:=hr'
 subst hr'
 refine fun F E a w hF hE hg=>wpIn_mono (h.of _ ⟨[],rfl,rfl⟩ F E a w hF hE hg) fun e a w hp=>?_
 obtain⟨s,⟨s',h1,h2⟩,h3⟩:=hp
 exact⟨s',h2,h1.good hE h3⟩
theorem vcP_new{P:Program}{nt m:Nat}{R:Exit→St→Prop}{g:FuncId}{args args':List AV}{dst:Option Nat}{rest:List COp}{k:List Iv}{env:Env}{H H0:Heap}{v0:AV}(hc:HCH P g args [] fun r H'=>r=v0∧H'=H0)(ha:AV.pureL args=true)
  (h:vc P nt m R (.ops rest::k) ⟨eput env dst (shiftV H.length v0),H++H0.map (shiftB H.length)⟩):vcP P nt m R g args args' dst rest k ⟨env,H⟩:=
 vcP_raw ((hc.pure ha H).mono (by rintro r H' ⟨r0,H0',⟨rfl,rfl⟩,rfl,rfl⟩;exact h))
theorem vcP_here{P:Program}{nt m:Nat}{R:Exit→St→Prop}{g:FuncId}{args args':List AV}{dst:Option Nat}{rest:List COp}{k:List Iv}{env:Env}{H:Heap}{Q:AV→Heap→Prop}(hc:HCH P g args H Q)
  (h: ∀r H',Q r H'→vc P nt m R (.ops rest::k) ⟨eput env dst r,H'⟩):vcP P nt m R g args args' dst rest k ⟨env,H⟩:=
 vcP_raw (hc.mono h)
theorem shift_mapN{n:Nat}{l:List Int}:List.map (shiftL n) (List.map encN l)=List.map encN l:=by
 rw[map_map];exact List.map_congr_left fun a _=>by simp[encN,shiftL,shiftV]
attribute [go_sem] shift_mapN shiftV shiftL shiftB
end Go.Fl
namespace Go.Fl
open Go.RowKit
theorem Conc.grown{κ:Cx}(h:Conc κ){w':World}{S':Nat→Nat→Prop}(hb:Below κ.w.heap.size κ.w w')(hS: ∀g o,κ.S g o→S' g o)(hn: ∀g o,S' g o→κ.S g o∨κ.w.heap.size≤g∧g<w'.heap.size):
  Conc { κ with w:=w',S:=S' }∧StepM κ { κ with w:=w',S:=S' }:=by
 have hk:Keep κ { κ with w:=w',S:=S' }:=⟨fun g o hs=>⟨hS g o hs,.of_block (hb.block g (h.swf g o hs))⟩,fun b ty cs sl hb=>⟨rfl,cs,sl,hb⟩,fun b el sz es sl hb=>⟨es,sl,hb,Nat.le_refl _,fun _=>rfl⟩,fun b el sz es g hb=>⟨es,g,hb,Nat.le_refl _,fun _=>⟨rfl,rfl⟩⟩⟩
 have hlt: ∀{b:Nat} {x:Blk},κ.H[b]? =some x→(κ.ρ b).isNil=false→(κ.ρ b).blk<κ.w.heap.size:=fun hb hn=>h.lt _ (List.getElem?_eq_some_iff.1 hb).1 hn
 refine⟨⟨fun b x hx=>(h.blk b x hx).keep hk rfl (fun hn=>hb.block _ (hlt hx hn)) (fun hq o hs=>?_),h.inj,fun b hbl hq=>Nat.lt_of_lt_of_le (h.lt b hbl hq) hb.size,fun g o hs=>?_,h.gls hk.s⟩,?_⟩
 ·rcases hn _ _ hs with h1|h1
  ·exact h1
  ·have:=hlt hx hq
   omega
 ·rcases hn _ _ hs with h1|h1
  ·exact Nat.lt_of_lt_of_le (h.swf g o h1) hb.size
  ·exact h1.2
 ·exact { hk with os:=hb.os,tape:=hb.tape,output:=hb.output,size:=hb.size,frame:=fun g hg _=>hb.block g hg,snew:=fun g o hs=>(hn g o hs).imp id fun h=> .inl h.1,own:=fun g hg=> .inl hg }
theorem PC.of_calls{P:Program}{f:FuncId}{args:List AV}{v:AV}(he: ∀args w,(callFunc f args).run P w= .ok (.enter f args) w)
  (h: ∀(κ:Cx) (cs:List Value),Conc κ→VL κ args cs→Calls P f cs.toArray κ.w fun e w'=> ∃c S',e= .returned c∧Below κ.w.heap.size κ.w w'∧(∀g o,κ.S g o→S' g o)∧(∀g o,S' g o→κ.S g o∨κ.w.heap.size≤g∧g<w'.heap.size)∧V { κ with w:=w',S:=S' } v c):PC P f args v:=
 PC.mk ⟨he,fun κ cs hc hH hv=>(h κ cs hc hv).mono fun e w' ⟨c,S',e1,hb,h1,h2,h3⟩=>⟨v,c,{ κ with w:=w',S:=S' },e1,⟨rfl,hH⟩,rfl,(hc.grown hb h1 h2).1,(hc.grown hb h1 h2).2,h3⟩⟩
theorem PC.of_calls0{P:Program}{f:FuncId}{args:List AV}{v:AV}(he: ∀args w,(callFunc f args).run P w= .ok (.enter f args) w)
  (h: ∀(κ:Cx) (cs:List Value),Conc κ→VL κ args cs→Calls P f cs.toArray κ.w fun e w'=> ∃c,e= .returned c∧Below κ.w.heap.size κ.w w'∧ ∀κ',V κ' v c):PC P f args v:=
 PC.of_calls he fun κ cs hc hv=>(h κ cs hc hv).mono fun e w' ⟨c,e1,hb,h3⟩=>⟨c,κ.S,e1,hb,fun _ _ h=>h,fun _ _ h=> .inl h,h3 _⟩
theorem below_grow(w:World)(k:Nat)(os:Array Obj):Below w.heap.size w (Go.Sort.grow (w.drewN k) os):=by
 refine⟨rfl,rfl,rfl,by simp[Go.Sort.grow],fun g hg=>?_⟩
 simp only[Go.Sort.grow,World.heap_drewN]
 rw[Array.getElem?_append_left hg]
theorem Conc.tab{κ:Cx}(hc:Conc κ){P:Program}{name:String}{g:Nat}{k:IntKind}{zs:List Int}(hx:(g,zs.map (AV.int k))∈gtab)(hn:P.globalNamed name=some g)(h0:zs≠[]):Lib.TabIs P κ.w name k zs:=by
 obtain⟨h1,h2,h3⟩:=hc.gl _ hx
 unfold Lib.TabIs World.var?
 rw[hn]
 simp only[Option.bind_some]
 have cells: ∀(l:List Int) (o:Nat),PVC κ.S κ.w (l.map (AV.int k)) ⟨g,o,none⟩→ ∀j z,l[j]? =some z→κ.w.cell? ⟨g,o+j,none⟩=some (.int k z):=by
  intro l
  induction l with
  |nil=>intro o _ j z hj;simp at hj
  |cons a l ih=>
   rintro o ⟨⟨c,q1,q2,q3,q4⟩,q5⟩ j z hj
   cases j with
   |zero=>
    simp only[List.getElem?_cons_zero,Option.some.injEq]at hj
    subst hj
    rw[Nat.add_zero,q1]
    rw[show c=Value.int k a from q4]
   |succ j=>
    have:=ih (o+1) q5 j z (by simpa using hj)
    rw[show o+(j+1)=o+1+j from by omega]
    exact this
 have hcs:=cells zs 0 h1
 cases hb:κ.w.heap[g]? with
 |none=>
  cases zs with
  |nil=>exact absurd rfl h0
  |cons a l=>
   have:=hcs 0 a rfl
   simp[World.cell?, hb]at this
 |some x=>
  cases x with
  |cells arr ty fz=>
   simp only[Option.some.injEq]
   apply Array.ext_getElem?
   intro i
   simp only[List.getElem?_toArray,getElem?_map]
   cases hi:zs[i]? with
   |some z=>
    have:=hcs i z hi
    simpa[World.cell?, hb]using this
   |none=>
    have h3':κ.w.cell? ⟨g,zs.length,none⟩=none:=by simpa using h3
    simp only[World.cell?, hb,Option.isSome_none,Bool.false_eq_true,if_false]at h3'
    have h4:arr.size≤zs.length:=by simpa using h3'
    have h5:zs.length≤i:=by simpa using hi
    simp only[Option.map_none]
    rw[Array.getElem?_eq_none (by omega)]
  |_=>
   cases zs with
   |nil=>exact absurd rfl h0
   |cons a l=>
    have:=hcs 0 a rfl
    simp[World.cell?, hb]at this
def strs(l:List (List UInt8)):List (List AV):=l.map fun s=>[AV.lf (.str s)]
theorem strs_len(l:List (List UInt8)):(strs l).length=l.length:=by simp[strs]
theorem pve_strs{S:Nat→Nat→Prop}{w:World}{g:Nat}: ∀(l:List (List UInt8)) (o:Nat),PVE S w 1 (strs l) ⟨g,o,none⟩→ ∀(j:Nat) s,l[j]? =some s→w.cell? ⟨g,o+j,none⟩=some (.string ⟨s.toArray⟩)∧S g (o+j)
 |[],_,_,j,s,h=>by simp at h
 |a::l,o,⟨⟨⟨c,q1,q2,q3,q4⟩,_⟩,h2⟩,j,s,h=>by
  cases j with
  |zero=>
   simp only[List.getElem?_cons_zero,Option.some.injEq]at h
   subst h
   exact⟨by rw[Nat.add_zero,q1,show c=Value.string ⟨a.toArray⟩from q4],q2⟩
  |succ j=>
   have:=pve_strs l (o+1) h2 j s (by simpa using h)
   rw[show o+(j+1)=o+1+j from by omega]
   exact this
theorem pve_mk{S:Nat→Nat→Prop}{w:World}{g:Nat}: ∀(l:List (List UInt8)) (o:Nat),(∀(j:Nat) s,l[j]? =some s→w.cell? ⟨g,o+j,none⟩=some (.string ⟨s.toArray⟩)∧S g (o+j))→PVE S w 1 (strs l) ⟨g,o,none⟩
 |[],_,_=>trivial
 |a::l,o,h=>by
  obtain⟨h1,h2⟩:=h 0 a rfl
  refine⟨⟨⟨.string ⟨a.toArray⟩,by simpa using h1,by simpa using h2,rfl,rfl⟩,trivial⟩,pve_mk l (o+1) fun j s hj=>?_⟩
  have:=h (j+1) s (by simpa using hj)
  rw[show o+(j+1)=o+1+j from by omega]at this
  exact this
def keepE(N:Nat):Env→Env
 |[]=>[]
 |x::r=>if x.1<N then x::keepE N r else keepE N r
theorem keepE_nil{N:Nat}:keepE N []=[]:=rfl
theorem keepE_cons{N t:Nat}{v:AV}{r:Env}:keepE N ((t,v)::r)=if t<N then(t,v)::keepE N r else keepE N r:=rfl
attribute [go_sem] keepE_nil keepE_cons
section
variable {P:Program} {nt m:Nat} {R:Exit→St→Prop} {st:St}
theorem CV.same{Y:Code}(h:CV P nt m R [.code Y] st):CV P nt m R [.code Y] st:=h
end
end Go.Fl
namespace Go.Fl
section
variable {P:Program} {nt m:Nat} {R:Exit→St→Prop} {g:FuncId} {args a2:List AV} {dst:Option Nat} {v:AV}
theorem vp{rest:List COp}{k:List Iv}{env:Env}{H:Heap}(hc:PC P g a2 v)(hs:v.pure=true∧(AV.pureL args=true∧frzL [] args a2∨safeV v=true∧frzL H args a2))(h:vc P nt m R (.ops rest::k) ⟨eput env dst v,H⟩):vcP P nt m R g args a2 dst rest k ⟨env,H⟩:=by
 rcases hs with⟨h1,h2|h2⟩
 ·exact vcP_pure hc h1 h2.1 h2.2 h
 ·exact vcP_safe hc h1 h2.1 h2.2 h
theorem dp{lo hi:Nat}{s:DS}{K:DS→Prop}(hc:PC P g a2 v)(hs:v.pure=true∧AV.pureL args=true∧frzL [] args a2)(h:K (dPutF s dst v lo hi fun _=>True)):dCallP P g args a2 dst lo hi s K:=dCallP_pure hc hs.1 hs.2.1 hs.2.2 h
theorem dc{s:DS}{K:DS→Prop}(hc:PC P g a2 v)(hs:v.pure=true∧(AV.pureL args=true∧frzL [] args a2∨safeV v=true∧frzL (s.HB++s.pb) args a2))(h:K (dPutC s dst v (s.HB++s.pb))):dCallC P g args a2 dst s K:=by
 rcases hs with⟨h1,h2|h2⟩
 ·exact dCallC_pure hc h1 h2.1 h2.2 h
 ·exact dCallC_safe hc h1 h2.1 h2.2 h
theorem sg{b w:Bool}{op:Op}{rest:List COp}{k:List Iv}{st:St}(h1:b=true→vcG P nt m R (.bool true) w dst op rest k st)(h2:b=false→vcG P nt m R (.bool false) w dst op rest k st):vcG P nt m R (.bool b) w dst op rest k st:=vcG_split h1 h2
end
theorem cn:((1:Nat):Int)=1∧((0:Nat):Int)=0:=⟨rfl,rfl⟩
theorem hq{p:Prop}:(True∨p)=True∧(p∨True)=True∧(p∧p)=p∧(True∧p)=p∧(p∧True)=p:=by simp
theorem bq{a b:Bool}:((a&&b)=true↔a=true∧b=true)∧((a||b)=true↔a=true∨b=true)∧((a&&b)=false↔a=false∨b=false)∧((a||b)=false↔a=false∧b=false):=by
 cases a<;>cases b<;>simp
theorem bz{a:Bool}:((!a)=true↔a=false)∧((!a)=false↔a=true):=by
 cases a<;>simp
theorem aI{p q:Prop}(k:q)(h:p:=by first|exact trivial|omega|(simp only[I64];omega)):p∧q:=⟨h,k⟩
class Sp(g:Prop)(a b:outParam Prop):Prop where
 go:a→b→g
theorem sP{g a b:Prop}[h:Sp g a b](h1:a)(h2:b):g:=h.go h1 h2
class Mx(P:Program):Prop where
 mx:P.follows .mixedOrders=true
class Cq(goal:Prop)(P:outParam Program)(g:outParam FuncId)(a2:outParam (List AV))(side next:outParam (AV→Prop)):Prop where
 go: ∀v,PC P g a2 v→side v→next v→goal
section
variable {P:Program} {nt m:Nat} {R:Exit→St→Prop} {g:FuncId} {args a2:List AV} {dst:Option Nat} {v:AV}
instance {b w:Bool}{op:Op}{rest:List COp}{k:List Iv}{st:St}:Sp (vcG P nt m R (.bool b) w dst op rest k st) (b=true→vcG P nt m R (.bool true) w dst op rest k st) (b=false→vcG P nt m R (.bool false) w dst op rest k st):=⟨vcG_split⟩
instance {t:Bool}{a b:Code}{k:List Iv}{st:St}:Sp (vcIf P nt m R (.bool t) a b k st) (t=true→vc P nt m R (.code a::k) st) (t=false→vc P nt m R (.code b::k) st):=⟨vcIf_split⟩
instance {p q:Prop}{b:Bool}{rest:List COp}{k:List Iv}{st:St}:Sp (vcQ P nt m R (some (p,q,b)) dst rest k st) (p→vc P nt m R (.ops rest::k) ⟨eput st.env dst (.bool b),st.H⟩) (q→vc P nt m R (.ops rest::k) ⟨eput st.env dst (.bool (!b)),st.H⟩):=⟨vcQ_split⟩
instance {b w:Bool}{op:Op}{lo hi:Nat}{s:DS}{K:DS→Prop}:Sp (vcDG P (.bool b) w dst op lo hi s K) (b=true→vcDG P (.bool true) w dst op lo hi s K) (b=false→vcDG P (.bool false) w dst op lo hi s K):=⟨vcDG_split⟩
instance {rest:List COp}{k:List Iv}{env:Env}{H:Heap}:Cq (vcP P nt m R g args a2 dst rest k ⟨env,H⟩) P g a2 (fun v=>v.pure=true∧(AV.pureL args=true∧frzL [] args a2∨safeV v=true∧frzL H args a2)) (fun v=>vc P nt m R (.ops rest::k) ⟨eput env dst v,H⟩):=⟨fun _=>vp⟩
instance {s:DS}{K:DS→Prop}:Cq (dCallC P g args a2 dst s K) P g a2 (fun v=>v.pure=true∧(AV.pureL args=true∧frzL [] args a2∨safeV v=true∧frzL (s.HB++s.pb) args a2)) (fun v=>K (dPutC s dst v (s.HB++s.pb))):=⟨fun _=>dc⟩
instance {lo hi:Nat}{s:DS}{K:DS→Prop}:Cq (dCallP P g args a2 dst lo hi s K) P g a2 (fun v=>v.pure=true∧AV.pureL args=true∧frzL [] args a2) (fun v=>K (dPutF s dst v lo hi fun _=>True)):=⟨fun _=>dp⟩
theorem cq{goal:Prop}{side next:AV→Prop}(hc:PC P g a2 v)[c:Cq goal P g a2 side next](h:next v)(hs:side v:=by with_unfolding_all (first|exact⟨rfl,.inl ⟨by first|rfl|simp only[go_sem,AV.pureL,AV.pure],by first|(simp only[go_sem];done)|rfl⟩⟩|exact⟨rfl,.inr ⟨rfl,by simp only[go_sem]⟩⟩|exact⟨rfl,by first|rfl|simp only[go_sem,AV.pureL,AV.pure],by first|(simp only[go_sem];done)|rfl⟩)):goal:=c.go v hc hs h
theorem dw(f:Nat→List (Nat×Nat)){k:List Iv}{id:Nat}{ops:Array Oper}{env0:Env}{H0:Heap}[hm:Mx P](h:vcD P nt (fun s=>vc P nt m R k ⟨s.env,s.HB++s.pb⟩) ((cops ops).zip (f id)) ⟨env0,H0,[],[H0],[]⟩)(hk:(Nat.beq (f id).length ops.size&&drawOk ops (f id))=true:=by kernel_rfl):vc P nt m R (.code (.region id ops true)::k) ⟨env0,H0⟩:=by
 rw[vc_draw_eq]
 rw[Bool.and_eq_true]at hk
 exact CV.draw (f id) hm.mx (Nat.eq_of_beq_eq_true hk.1) hk.2 h
end
theorem bb:(∀a b:Bool,((a&&b)=true↔a=true∧b=true)∧((a||b)=true↔a=true∨b=true)∧((a&&b)=false↔a=false∨b=false)∧((a||b)=false↔a=false∧b=false))∧(∀a:Bool,((!a)=true↔a=false)∧((!a)=false↔a=true))∧(∀(p:Prop) (i:Decidable p),(decide p=true)=p)∧ ∀(p:Prop) (i:Decidable p),(decide p=false)= ¬p:=⟨fun _ _=>bq,fun _=>bz,fun _ _=>dtrue,fun _ _=>dfalse⟩
theorem ic:(∀a b:Nat,((a+b:Nat):Int)=(a:Int)+b)∧(((1:Nat):Int)=1∧((0:Nat):Int)=0)∧ ∀n:Nat,((OfNat.ofNat n:Nat):Int)=(OfNat.ofNat n:Int):=⟨Int.natCast_add,cn,fun _=>rfl⟩
theorem w0{m:Nat}{env env':Env}{H H':Heap}(h:Wk m ⟨env,H⟩ ⟨env',H'⟩:=by first|exact wk_same (by simp only[go_sem,ic])|(refine wk_drop ?_ ?_ ?_ ?_ ?_<;>simp only[go_sem,ic])):Wk m ⟨env,H⟩ ⟨env',H'⟩:=h
theorem pB{P:Program}{f:FuncId}{fn:Func}{c:Code}{args:List AV}{v:AV}(hf:P.funcs[f]? =some fn)(h:lenL args→CV P fn.ntmps 0 (Ret P fn.results.toList fun r H=>frz H r v) [.code c] ⟨argEnv 0 args,[]⟩)(hname:(fn.name == "runtime.NumGoroutine")=false:=by kernel_rfl)(hb:fn.body=some c:=by rfl)(hn:Nat.ble args.length fn.ntmps=true:=by rfl)(hv:v.pure=true:=by rfl):PC P f args v:=PC.body hf hname hb (Nat.le_of_ble_eq_true hn) hv h
open Go.RowKit
def goneC(κ:Cx)(n:Nat):Cx:={ S:=κ.S,w:=κ.w,ρ:=upd κ.ρ n nilZ,H:=κ.H.set n .gone }
def putPs:List Nat→List AV→Env→Env
 |p::ps,v::vs,env=>putPs ps vs ((p,v)::env)
 |_,_,env=>env
theorem putPs_ok{κ:Cx}: ∀(ps:List Nat) (vs:List AV) (cs:List Value) (env:Env) (tmps:Array Value),VL κ vs cs→ps.length=vs.length→(∀p∈ps,p<tmps.size)→(∀t,V κ (eget env t) (tmps.getD t undef))→
  ((ps.zip cs).foldl (fun tmps (x:Nat×Value)=>tmps.setIfInBounds x.1 x.2) tmps).size=tmps.size∧ ∀t,V κ (eget (putPs ps vs env) t) (((ps.zip cs).foldl (fun tmps (x:Nat×Value)=>tmps.setIfInBounds x.1 x.2) tmps).getD t undef)
 |[],[],cs,env,tmps,hv,_,_,h=>by rw[show cs=[]from hv];exact⟨rfl,h⟩
 |[],_::_,_,_,_,_,hl,_,_=>by simp at hl
 |_::_,[],_,_,_,_,hl,_,_=>by simp at hl
 |p::ps,v::vs,cs,env,tmps,⟨c,cs',e,h1,h2⟩,hl,hp,h=>by
  subst e
  have hp0:=hp p (by simp)
  have:=putPs_ok ps vs cs' ((p,v)::env) (tmps.setIfInBounds p c) h2 (by simpa using hl) (fun q hq=>by simpa using hp q (by simp[hq])) (fun t=>by
   by_cases e:p=t
   ·subst e
    simp only[eget,if_true]
    have:(tmps.setIfInBounds p c).getD p undef=c:=by simp[hp0]
    rw[this];exact h1
   ·simp only[eget,if_neg e]
    have:(tmps.setIfInBounds p c).getD t undef=tmps.getD t undef:=by
     simp only[Array.getD_eq_getD_getElem?, Array.getElem?_setIfInBounds_ne e]
    rw[this];exact h t)
  simpa[putPs]using this
section
variable {κ:Cx} (hc:Conc κ) {n l nt:Nat} {ps:Array Tmp} {assign body:Code} {env:Env} (hn:κ.H[n]? =some (.loop l nt ps assign body env))
include hc hn
theorem gone_ok:Conc (goneC κ n)∧StepM κ (goneC κ n)∧ ¬Owned (goneC κ n) l∧ ∀g,Owned (goneC κ n) g→Owned κ g:=by
 have hnl:=(List.getElem?_eq_some_iff.1 hn).1
 obtain⟨b1,b2,_⟩:=hc.blk _ _ hn
 have hm:=hc.mod (w':=κ.w) n nilZ _ .gone hn rfl rfl rfl (Nat.le_refl _) (fun _ _ _=>rfl) (fun _ _ _=>SameAt.refl) (fun h=>by cases h) rfl (fun _=>by simp only[BlkOk,upd_same];rfl)
 have key: ∀b,b<κ.H.length→(upd κ.ρ n nilZ b).isNil=false→b≠n∧upd κ.ρ n nilZ b=κ.ρ b:=fun b hb h=>by
  by_cases e:b=n
  ·subst e;simp only[upd_same]at h;cases h
  ·exact⟨e,upd_other _ _ e⟩
 refine⟨hm.1,hm.2,fun⟨b,q1,q2,q3⟩=>?_,fun g ⟨b,q1,q2,q3⟩=>?_⟩
 ·have q1:b<κ.H.length:=by simpa[goneC]using q1
  obtain⟨e1,e2⟩:=key b q1 q2
  simp only[goneC,e2]at q2 q3
  exact e1 (hc.inj b n q1 hnl q2 b1 (by rw[b2];exact q3))
 ·have q1:b<κ.H.length:=by simpa[goneC]using q1
  obtain⟨e1,e2⟩:=key b q1 q2
  simp only[goneC,e2]at q2 q3
  exact⟨b,q1,q2,q3⟩
theorem ungone{o':Loop}(κ4:Cx)(X:Blk)(h4:Conc κ4)(hs:StepM { goneC κ n with w:=κ.w.putObj l (.loop o') } κ4)(hg:κ4.H[n]? =some .gone)(hl4:κ4.w.heap[l]? =some (.loop o'))
  (hX:Keep κ { S:=κ4.S,w:=κ4.w,ρ:=upd κ4.ρ n (κ.ρ n),H:=κ4.H.set n X }→(∀o,¬ κ4.S l o)→BlkOk { S:=κ4.S,w:=κ4.w,ρ:=upd κ4.ρ n (κ.ρ n),H:=κ4.H.set n X } n X) (hX2: ∀ty cs sl,X≠ .box ty cs sl) (hX3: ∀a b c d,X≠ .row a b c d) (hX4: ∀a b c d,X≠ .rg a b c d):
  Conc { S:=κ4.S,w:=κ4.w,ρ:=upd κ4.ρ n (κ.ρ n),H:=κ4.H.set n X }∧StepM κ { S:=κ4.S,w:=κ4.w,ρ:=upd κ4.ρ n (κ.ρ n),H:=κ4.H.set n X }:=by
 have hnl:=(List.getElem?_eq_some_iff.1 hn).1
 have hnl4:=(List.getElem?_eq_some_iff.1 hg).1
 obtain⟨b1,b2,fn,tmps,dfr,b3,b4,b5,b6⟩:=hc.blk _ _ hn
 obtain⟨g1,g2,g3,g4⟩:=gone_ok hc hn
 have hlt:=(Array.getElem?_eq_some_iff.1 b3).1
 have hcell:=fun g o=>putObj_cell b3 (o':= .loop o') rfl rfl g o
 have hno4: ¬Owned κ4 l:=fun h=>(hs.own l h).elim g3 (fun h=>by have h:(κ.w.putObj l (.loop o')).heap.size≤l:=h;simp at h;omega)
 have hS: ∀o,¬ κ4.S l o:=fun o h=>by
  rcases hs.snew l o h with q|q|q
  ·exact b6 o q
  ·have q:(κ.w.putObj l (.loop o')).heap.size≤l:=q
   simp at q;omega
  ·exact g3 q
 have hother: ∀{b:Nat},b≠n→(κ4.H.set n X)[b]? =κ4.H[b]? :=fun h=>by rw[List.getElem?_set_ne (by omega)]
 have hgo: ∀{b:Nat},b≠n→(goneC κ n).H[b]? =κ.H[b]? :=fun h=>by simp only[goneC];rw[List.getElem?_set_ne (by omega)]
 have hρg: ∀{b:Nat},b≠n→(goneC κ n).ρ b=κ.ρ b:=fun h=>upd_other _ _ h
 have hk:Keep κ { S:=κ4.S,w:=κ4.w,ρ:=upd κ4.ρ n (κ.ρ n),H:=κ4.H.set n X }:=by
  refine⟨fun g o h=>⟨(hs.s g o h).1,(hcell g o).trans (hs.s g o h).2⟩,fun b ty cs sl hb=>?_,fun b el sz es sl hb=>?_,fun b el sz es g hb=>?_⟩
  ·have e:b≠n:=fun e=>by subst e;rw[hn]at hb;cases hb
   obtain⟨e1,cs',sl',e2⟩:=hs.box b ty cs sl ((hgo e).trans hb)
   exact⟨(upd_other _ _ e).trans (e1.trans (hρg e)),cs',sl',(hother e).trans e2⟩
  ·have e:b≠n:=fun e=>by subst e;rw[hn]at hb;cases hb
   obtain⟨es',sl',e1,e2,e3⟩:=hs.row b el sz es sl ((hgo e).trans hb)
   exact⟨es',sl',(hother e).trans e1,e2,fun h=>(upd_other _ _ e).trans ((e3 h).trans (hρg e))⟩
  ·have e:b≠n:=fun e=>by subst e;rw[hn]at hb;cases hb
   obtain⟨es',g',e1,e2,e3⟩:=hs.rg b el sz es g ((hgo e).trans hb)
   exact⟨es',g',(hother e).trans e1,e2,fun h=>⟨(e3 h).1,(upd_other _ _ e).trans ((e3 h).2.trans (hρg e))⟩⟩
 have hk4:Keep κ4 { S:=κ4.S,w:=κ4.w,ρ:=upd κ4.ρ n (κ.ρ n),H:=κ4.H.set n X }:=by
  refine⟨fun g o h=>⟨h,SameAt.refl⟩,fun b ty cs sl hb=>?_,fun b el sz es sl hb=>?_,fun b el sz es g hb=>?_⟩
  ·have e:b≠n:=fun e=>by subst e;rw[hg]at hb;cases hb
   exact⟨upd_other _ _ e,cs,sl,(hother e).trans hb⟩
  ·have e:b≠n:=fun e=>by subst e;rw[hg]at hb;cases hb
   exact⟨es,sl,(hother e).trans hb,Nat.le_refl _,fun _=>upd_other _ _ e⟩
  ·have e:b≠n:=fun e=>by subst e;rw[hg]at hb;cases hb
   exact⟨es,g,(hother e).trans hb,Nat.le_refl _,fun _=>⟨rfl,upd_other _ _ e⟩⟩
 have hlen:(κ4.H.set n X).length=κ4.H.length:=by simp
 refine⟨⟨fun b x hb=>?_,fun b b' hb hb' hn1 hn2 e=>?_,fun b hb hn1=>?_,h4.swf,h4.gl⟩,?_⟩
 ·by_cases e:b=n
  ·subst e
   have hb:(κ4.H.set b X)[b]? =some x:=hb
   rw[List.getElem?_set_self hnl4]at hb
   cases hb
   exact hX hk hS
  ·have hb:(κ4.H.set n X)[b]? =some x:=hb
   rw[hother e]at hb
   exact(h4.blk b x hb).keep hk4 (upd_other _ _ e) (fun _=>rfl) (fun _ _ hs=>hs)
 ·have hb2:b<κ4.H.length:=by simpa using hb
  have hb2':b'<κ4.H.length:=by simpa using hb'
  clear hb hb'
  by_cases e1:b=n<;>by_cases e2:b'=n
  ·omega
  ·subst e1
   simp only[upd_same,upd_other κ4.ρ _ e2]at hn1 hn2 e
   exact(hno4 ⟨b',hb2',hn2,by rw[←e,b2]⟩).elim
  ·subst e2
   simp only[upd_same,upd_other κ4.ρ _ e1]at hn1 hn2 e
   exact(hno4 ⟨b,hb2,hn1,by rw[e,b2]⟩).elim
  ·simp only[upd_other κ4.ρ _ e1,upd_other κ4.ρ _ e2]at hn1 hn2 e
   exact h4.inj b b' hb2 hb2' hn1 hn2 e
 ·have hb:b<κ4.H.length:=by rw[←hlen];exact hb
  by_cases e1:b=n
  ·subst e1
   simp only[upd_same]at hn1 ⊢
   rw[b2];exact(Array.getElem?_eq_some_iff.1 hl4).1
  ·simp only[upd_other κ4.ρ _ e1]at hn1 ⊢
   exact h4.lt b hb hn1
 ·have hsz:=hs.size
  simp only[World.putObj_size]at hsz
  refine { hk with os:=hs.os,tape:=hs.tape,output:=hs.output,size:=hsz,frame:=fun g hg' ho=>?_,snew:=fun g o hS'=>?_,own:=fun g ⟨b,q1,q2,q3⟩=>?_ }
  ·have hgl:g≠l:=fun e=>ho ⟨n,hnl,b1,by rw[b2,e]⟩
   have:=hs.frame g (by simpa using hg') (fun h=>ho (g4 g h))
   rw[this]
   exact World.putObj_heap_other hgl
  ·rcases hs.snew g o hS' with q|q|q
   ·exact .inl q
   ·exact .inr (.inl (by simpa using q))
   ·exact .inr (.inr (g4 g q))
  ·have q1:b<κ4.H.length:=by rw[←hlen];exact q1
   by_cases e:b=n
   ·subst e
    simp only[upd_same]at q2 q3
    exact .inl ⟨b,hnl,q2,q3⟩
   ·simp only[upd_other κ4.ρ _ e]at q2 q3
    rcases hs.own g ⟨b,q1,q2,q3⟩with q|q
    ·exact .inl (g4 g q)
    ·exact .inr (by simpa using q)
end
def RB(l nt n:Nat)(ps:Array Tmp)(assign body:Code)(env:Env)(m:Nat)(Q:AV→Heap→Prop)(e:Exit)(s:St):Prop:=
 ∃Hf,Wn m s ⟨[],Hf⟩∧Hf[n]? =some .gone∧match e with
  | .normal=>Q (.bool true) (Hf.set n (.loop l nt ps assign body env))
  | .ret=>Q (.bool false) (Hf.set n (.lpe l .ret))
  | .exit id=>Q (.bool false) (Hf.set n (.lpe l (.exit id)))
  |_=>False
theorem HCY.of_bodyG{P:Program}{l nt n:Nat}{ps:Array Tmp}{assign body:Code}{env:Env}{Ha:Heap}{args:List AV}{Q:AV→Heap→Prop}(hn:Ha[n]? =some (.loop l nt ps assign body env))(hps:ps.toList.length=args.length)(hlt: ∀p∈ps.toList,p<nt)
  (h:VC P nt Ha.length (fun _ _=>False) [.code assign,.back (fun s=>VC P nt Ha.length (RB l nt n ps assign body env Ha.length Q) [.code body] s)] ⟨putPs ps.toList args env,Ha.set n .gone⟩):
  HCY P l args Ha Q:=by
 intro F κ cargs hF hc hH hv
 subst hH
 obtain⟨b1,b2,fn,tmps,dfr,b3,b4,b5,b6⟩:=hc.blk _ _ hn
 obtain⟨g1,g2,g3,g4⟩:=gone_ok hc hn
 have hcl:cargs.toArray.size=ps.size:=by
  have h1:=hv.length
  have h2:ps.toList.length=ps.size:=Array.length_toList
  rw[List.size_toArray];omega
 have hy:=run_yield (P:=P) (args:=cargs.toArray) b3 hcl
 have hfold:((ps.zip cargs.toArray).foldl (fun tmps (t,a)=>tmps.setIfInBounds t a) tmps)=((ps.toList.zip cargs).foldl (fun tmps (x:Nat×Value)=>tmps.setIfInBounds x.1 x.2) tmps):=by
  rw[←Array.foldl_toList,Array.toList_zip]
 simp only[]at hy
 rw[hfold]at hy
 obtain⟨z1,z2⟩:=putPs_ok (κ:=goneC κ n) ps.toList args cargs env tmps (VL.mono g2.toKeep _ _ hv) hps (fun p hp=>by rw[b4];exact hlt p hp) (fun t=>V.mono g2.toKeep _ _ (b5 t))
 refine⟨fn,_,assign,body,hy,roundIn_of_wpIn (hF.fn fn) ?_⟩
 have hWF:WideE (F.inRound l) (goneC κ n):=by
  refine⟨.inr ⟨l,?_⟩,fun l' hl'=>?_⟩
  ·rcases hF with rfl|⟨l0,rfl⟩<;>rfl
  ·simp only[Fence.inRound_round,Option.some.injEq]at hl'
   subst hl'
   exact⟨g3,_,b3⟩
 have hm:(goneC κ n).H.length=κ.H.length:=by simp[goneC]
 have hgood:Good nt (goneC κ n) ⟨putPs ps.toList args env,κ.H.set n .gone⟩ { tmps:=((ps.toList.zip cargs).foldl (fun tmps (x:Nat×Value)=>tmps.setIfInBounds x.1 x.2) tmps),defers:=[] } κ.w:=
  ⟨goneC κ n,rfl,rfl,g1,.refl _,by rw[z1,b4],z2,by simp,fun d hd=>by cases hd⟩
 refine wpIn_mono (h (F.inRound l) _ _ κ.w hWF hm hgood) ?_
 intro e a1 w1 hp1
 cases e with
 |normal=>
  obtain⟨s1,hbody,hg1⟩:=hp1
  obtain⟨hl1,hg2⟩:=Good.put2 (hg:=hg1) (E:=goneC κ n) (o':= .loop { state:= .busy,pending:=none,fn:=fn,tmps:=tmps,params:=ps,assign:=assign,body:=body,defers:=dfr }) b3 rfl rfl g3
  refine⟨_,run_beginRound hl1 rfl,?_⟩
  have hbl:(κ.w.putObj l (.loop { state:= .busy,pending:=none,fn:=fn,tmps:=tmps,params:=ps,assign:=assign,body:=body,defers:=dfr })).heap[l]? =some (.loop { state:= .busy,pending:=none,fn:=fn,tmps:=tmps,params:=ps,assign:=assign,body:=body,defers:=dfr }):=World.putObj_heap_same (Array.getElem?_eq_some_iff.1 b3).1
  have hWF2:WideE (F.inRound l) { goneC κ n with w:=(goneC κ n).w.putObj l (.loop { state:= .busy,pending:=none,fn:=fn,tmps:=tmps,params:=ps,assign:=assign,body:=body,defers:=dfr }) }:=by
   refine⟨hWF.1,fun l' hl'=>?_⟩
   simp only[Fence.inRound_round,Option.some.injEq]at hl'
   subst hl'
   exact⟨g3,_,hbl⟩
  have fin: ∀(jump:Option Code) (Hf:Heap) (X:Blk) (r:Bool) (a3:Act) (w3:World),r=jump.isNone→Hf[n]? =some .gone→
    ((jump=none∧X= .loop l nt ps assign body env)∨ ∃c,jump=some c∧X= .lpe l c)→
    Good nt { goneC κ n with w:=(goneC κ n).w.putObj l (.loop { state:= .busy,pending:=none,fn:=fn,tmps:=tmps,params:=ps,assign:=assign,body:=body,defers:=dfr }) } ⟨[],Hf⟩ a3 w3→Q (.bool r) (Hf.set n X)→
    ∃v w',(Instr.endRound l jump).run P w3= .ok v w'∧ ∃r c κ',(Ending.returned v:Ending)= .returned c∧Q r κ'.H∧κ'.w=w'∧Conc κ'∧StepM κ κ'∧V κ' r c:=by
   intro jump Hf X r a3 w3 hr hgone hX hg4 hQ
   obtain⟨hl3,hg5⟩:=Good.put2 (hg:=hg4) (E:={ goneC κ n with w:=(goneC κ n).w.putObj l (.loop { state:= .busy,pending:=none,fn:=fn,tmps:=tmps,params:=ps,assign:=assign,body:=body,defers:=dfr }) }) (o':= .loop { state:=if jump.isNone then .ready else .done,pending:=jump,fn:=fn,tmps:=tmps,params:=ps,assign:=assign,body:=body,defers:=dfr }) hbl rfl rfl g3
   refine⟨_,_,run_endRound jump hl3,?_⟩
   obtain⟨κ4,e1,e2,e3,e4,_⟩:=hg5
   have hE:({ goneC κ n with w:=((goneC κ n).w.putObj l (.loop { state:= .busy,pending:=none,fn:=fn,tmps:=tmps,params:=ps,assign:=assign,body:=body,defers:=dfr })).putObj l (.loop { state:=if jump.isNone then .ready else .done,pending:=jump,fn:=fn,tmps:=tmps,params:=ps,assign:=assign,body:=body,defers:=dfr }) }:Cx)={ goneC κ n with w:=κ.w.putObj l (.loop { state:=if jump.isNone then .ready else .done,pending:=jump,fn:=fn,tmps:=tmps,params:=ps,assign:=assign,body:=body,defers:=dfr }) }:=by
    simp[World.putObj,goneC]
   have e4:StepM { goneC κ n with w:=κ.w.putObj l (.loop { state:=if jump.isNone then .ready else .done,pending:=jump,fn:=fn,tmps:=tmps,params:=ps,assign:=assign,body:=body,defers:=dfr }) } κ4:=hE▸e4
   have hl4:κ4.w.heap[l]? =some (.loop { state:=if jump.isNone then .ready else .done,pending:=jump,fn:=fn,tmps:=tmps,params:=ps,assign:=assign,body:=body,defers:=dfr }):=by
    rw[e1];exact World.putObj_heap_same (Array.getElem?_eq_some_iff.1 hl3).1
   have hHf:κ4.H=Hf:=e2
   have hall:=ungone hc hn κ4 X e3 e4 (by rw[hHf];exact hgone) hl4 (fun hk hS=>by
    rcases hX with⟨rfl,rfl⟩|⟨c,rfl,rfl⟩
    ·exact⟨by simp only[upd_same];exact b1,by simp only[upd_same];exact b2,fn,tmps,dfr,by simpa using hl4,b4,fun t=>V.mono hk _ _ (b5 t),hS⟩
    ·exact⟨by simp only[upd_same];exact b1,by simp only[upd_same];exact b2,⟨_,hl4,by simp,rfl⟩,hS⟩)
    (fun _ _ _ e=>by rcases hX with⟨_,rfl⟩|⟨c,_,rfl⟩<;>cases e) (fun _ _ _ _ e=>by rcases hX with⟨_,rfl⟩|⟨c,_,rfl⟩<;>cases e) (fun _ _ _ _ e=>by rcases hX with⟨_,rfl⟩|⟨c,_,rfl⟩<;>cases e)
   refine⟨.bool r,.bool r,{ S:=κ4.S,w:=κ4.w,ρ:=upd κ4.ρ n (κ.ρ n),H:=κ4.H.set n X },by rw[hr],by simp only[hHf];exact hQ,e1,hall.1,hall.2,rfl⟩
  refine wpIn_mono (hbody (F.inRound l) _ a1 _ hWF2 hm hg2) ?_
  intro e a3 w3 hp3
  obtain⟨s3,⟨Hf,hw3,hgone,hq⟩,hg3⟩:=hp3
  have hg4:=hw3.good (E:={ goneC κ n with w:=(goneC κ n).w.putObj l (.loop { state:= .busy,pending:=none,fn:=fn,tmps:=tmps,params:=ps,assign:=assign,body:=body,defers:=dfr }) }) hm hg3
  cases e with
  |normal=>exact fin none Hf _ true a3 w3 rfl hgone (.inl ⟨rfl,rfl⟩) hg4 hq
  |ret=>exact fin (some .ret) Hf _ false a3 w3 rfl hgone (.inr ⟨_,rfl,rfl⟩) hg4 hq
  |exit id=>exact fin (some (.exit id)) Hf _ false a3 w3 rfl hgone (.inr ⟨_,rfl,rfl⟩) hg4 hq
  |goto t=>exact hq.elim
  |panic c=>exact hq.elim
  |outgrown=>exact hq.elim
 |ret=>obtain⟨_,hf,_⟩:=hp1;exact hf.elim
 |exit id=>obtain⟨_,hf,_⟩:=hp1;exact hf.elim
 |goto t=>obtain⟨_,hf,_⟩:=hp1;exact hf.elim
 |panic c=>obtain⟨_,hf,_⟩:=hp1;exact hf.elim
 |outgrown=>obtain⟨_,hf,_⟩:=hp1;exact hf.elim
section
variable {P:Program} {nt m:Nat} {R:Exit→St→Prop} {k:List It} {st:St}
theorem VC.rangeG{g:Operand}{ps:Array Tmp}{assign body:Code}{gf:Nat}{caps:List AV}(hg:evA st.env g= .fn gf caps)(hm:m≤st.H.length)
  (h: ∀l,HCH P gf (.yld l::caps) (st.H++[.loop l nt ps assign body st.env]) fun r H'=>
   ∃H2 x rest,H'=H2++x::rest∧H2.length=st.H.length∧belowH H2.length H2∧belowE H2.length st.env∧((x= .loop l nt ps assign body st.env∧VC P nt m R k ⟨st.env,H2⟩)∨ ∃c,x= .lpe l c∧VC P nt m R (.code c::k) ⟨st.env,H2⟩)):
  VC P nt m R (.code (.rangeFunc g ps assign body)::k) st:=by
 intro F E a w hF hE hgd
 obtain⟨κ,rfl,h2,h3,h4,h5,h6,h7,h8⟩:=hgd.rho
 simp only[post]
 refine wpIn_rangeFunc ?_
 intro fn _
 obtain⟨l,mark,w1,q1,q2,q3,q4,q5,q6,q7,⟨dfr,q8⟩,q9⟩:=enter_loopP (P:=P) (a:=a) (ps:=ps) (assign:=assign) (body:=body) hF h4 fn
 have hfv:=h8.ev g
 rw[hg]at hfv
 obtain⟨cc,e1,hl⟩:=hfv
 obtain⟨c1,s1⟩:=h3.push (w':=w1) { blk:=l,cap:=0,isNil:=false } (.loop l nt ps assign body st.env) q2 q3 q4 (by omega) q7 (fun _=>⟨q5,q6⟩) (fun hk=>by
  simp only[BlkOk,upd_same]
  refine⟨trivial,trivial,fn,a.tmps,dfr,q8,h5,fun t=>V.mono hk _ _ (h6 t),fun o hS=>?_⟩
  have:=h3.swf l o hS;omega)
 have hcall:=(h l).2 { S:=κ.S,w:=w1,ρ:=upd κ.ρ κ.H.length { blk:=l,cap:=0,isNil:=false },H:=κ.H++[.loop l nt ps assign body st.env] } (.func (.yield l) #[] #[]::cc.toList) c1 (by simp only[h2]) ⟨_,_,rfl,rfl,VL.mono s1.toKeep _ _ hl⟩
 refine⟨l,mark,w1,{ target:= .fn (.func gf) cc,args:= #[.func (.yield l) #[] #[]] },w1,gf,#[.func (.yield l) #[] #[]]++cc,w1,q1,?_,?_,?_,?_,?_⟩
 ·simp only[resolve,e1]
  simp[go_sem]
 ·intro f' hf';exact hF.1.fn _
 ·simp[invoke,go_sem,(h l).1]
 ·intro hd;rw[hF.1.depth]at hd;cases hd
 ·have hargs:(.func (.yield l) #[] #[]::cc.toList:List Value).toArray= #[.func (.yield l) #[] #[]]++cc:=by apply Array.toList_inj.1;simp
  rw[hargs]at hcall
  refine hF.1.calls (hcall.mono ?_)
  rintro e w' ⟨r,c,κ',rfl,⟨H2,x,rest,hH,hlen,hbH,hbE,hv⟩,rfl,k1,k2,_⟩
  have hn:H2.length<κ'.H.length:=by rw[hH];simp
  have htk:κ'.H.take H2.length=H2:=by rw[hH];simp
  have hlb:κ'.H[H2.length]? =some x:=by rw[hH];simp
  have hbx:(κ'.ρ H2.length).isNil=false∧(κ'.ρ H2.length).blk=l∧ ∃rec:Loop,κ'.w.heap[l]? =some (.loop rec)∧rec.state≠ .busy∧((rec.pending=none∧VC P nt m R k ⟨st.env,H2⟩)∨ ∃c,rec.pending=some c∧VC P nt m R (.code c::k) ⟨st.env,H2⟩):=by
   have hok:=k1.blk _ _ hlb
   rcases hv with⟨rfl,hv⟩|⟨c,rfl,hv⟩
   ·obtain⟨b1,b2,fn',tmps',dfr',b3,_⟩:=hok
    exact⟨b1,b2,_,b3,by simp,.inl ⟨rfl,hv⟩⟩
   ·obtain⟨b1,b2,⟨rec,b3,b4,b5⟩,_⟩:=hok
    exact⟨b1,b2,rec,b3,b4,.inr ⟨c,b5,hv⟩⟩
  obtain⟨b1,b2,rec,b3,b4,hv⟩:=hbx
  refine⟨_,_,run_endLoop b3 b4,?_⟩
  have s2:=h4.trans (s1.trans k2)
  have hct:Conc { κ' with H:=κ'.H.take H2.length }:=k1.trunc (by rw[htk];exact hbH)
  have hno: ¬Owned { κ' with H:=κ'.H.take H2.length } l:=fun⟨b',r1,r2,r3⟩=>by
   have r1:b'<(κ'.H.take H2.length).length:=r1
   rw[length_take]at r1
   have:=k1.inj b' H2.length (by omega) hn r2 b1 (by rw[b2];exact r3)
   omega
  obtain⟨d1,d2,d3⟩:=hct.putObj (o':= .loop { rec with state:= .exhausted }) b3 rfl rfl hno
  have hEm:E.H.length≤H2.length:=by omega
  have hsz:E.w.heap.size≤l:=Nat.le_trans h4.size q5
  have hgood:Good nt E ⟨st.env,H2⟩ { a with defers:=mark++a.defers } (κ'.w.putObj l (.loop { rec with state:= .exhausted })):=?_
  ·rcases hv with⟨e,hv⟩|⟨c,e,hv⟩
   ·rw[e]at hgood ⊢;exact hv F E _ _ hF hE hgood
   ·rw[e]at hgood ⊢;exact hv F E _ _ hF hE hgood
  refine⟨_,rfl,htk,d1,d2 E hsz (s2.trunc hEm),h5,fun t=>?_,?_,?_⟩
  ·exact V.mono d3 _ _ (V.trunc _ _ (belowE_get t hbE) (V.mono (s1.trans k2).toKeep _ _ (h6 t)))
  ·rcases q9 with rfl|⟨D,rfl,q10,_⟩
   ·exact h7.1
   ·refine List.nodup_cons.2 ⟨fun hmem=>?_,h7.1⟩
    obtain⟨D',z1,z2,_⟩:=h7.2 _ hmem
    have:=(Array.getElem?_eq_some_iff.1 z2).1
    have:D=D':=by simpa using z1
    omega
  ·have old: ∀D,κ'.w.heap[D]? =some (.deferred (some []))→E.w.heap.size≤D→ ¬Owned κ' D→D≠l→ ∃D',({ target:= .collected D,args:= #[] }:Deferred)={ target:= .collected D',args:= #[] }∧(κ'.w.putObj l (.loop { rec with state:= .exhausted })).heap[D']? =some (.deferred (some []))∧E.w.heap.size≤D'∧ ¬Owned { κ' with H:=κ'.H.take H2.length,w:=κ'.w.putObj l (.loop { rec with state:= .exhausted }) } D':=fun D z1 z2 z3 z4=>by
    refine⟨D,rfl,by rw[World.putObj_heap_other z4];exact z1,z2,fun⟨b',r1,r2,r3⟩=>z3 ⟨b',?_,r2,r3⟩⟩
    have r1:b'<(κ'.H.take H2.length).length:=r1
    rw[length_take]at r1
    omega
   intro d hd
   rcases List.mem_append.1 hd with hd|hd
   ·rcases q9 with rfl|⟨D,rfl,q10,q11,q12⟩
    ·cases hd
    ·have:d={ target:= .collected D,args:= #[] }:=by simpa using hd
     subst this
     have hD1: ¬Owned { S:=κ.S,w:=w1,ρ:=upd κ.ρ κ.H.length { blk:=l,cap:=0,isNil:=false },H:=κ.H++[.loop l nt ps assign body st.env] } D:=fun⟨b',r1,r2,r3⟩=>by
      have r1:b'<(κ.H++[Blk.loop l nt ps assign body st.env]).length:=r1
      simp only[List.length_append,length_cons,List.length_nil]at r1
      by_cases e:b'=κ.H.length
      ·subst e;simp only[upd_same]at r3;omega
      ·simp only[upd_other κ.ρ _ e]at r2 r3
       have:=h3.lt b' (by omega) r2;omega
     have hDlt:=(Array.getElem?_eq_some_iff.1 q12).1
     refine old D ?_ (Nat.le_trans h4.size q10) (fun ho=>?_) q11
     ·rw[k2.frame D hDlt hD1];exact q12
     ·rcases k2.own D ho with z|z
      ·exact hD1 z
      ·have z:w1.heap.size≤D:=z
       omega
   ·have hms:=h7.2.step (s1.trans k2)
    obtain⟨D,z1,z2,z3,z4⟩:=hms d hd
    subst z1
    obtain⟨D',y1,y2,_⟩:=h7.2 _ hd
    have hDD:D=D':=by simpa using y1
    have:=(Array.getElem?_eq_some_iff.1 y2).1
    exact old D z2 z3 z4 (by omega)
end
section
variable {P:Program} {nt m:Nat} {R:Exit→St→Prop} {k:List Iv} {st:St}
theorem HCY.bodyG{l n:Nat}{ps:Array Tmp}{assign body:Code}{env:Env}{Ha:Heap}{args:List AV}{Q:AV→Heap→Prop}(hn:Ha[n]? =some (.loop l nt ps assign body env))(hps:ps.toList.length=args.length)(hlt: ∀p∈ps.toList,p<nt)
  (h:vc P nt Ha.length (fun _ _=>False) [.code assign,.back (fun s=>vc P nt Ha.length (RB l nt n ps assign body env Ha.length Q) [.code body] s)] ⟨putPs ps.toList args env,Ha.set n .gone⟩):
  HCY P l args Ha Q:=
 HCY.of_bodyG hn hps hlt (((CV.run h).of _ ⟨_,rfl,_,rfl,rfl⟩).backMono fun s hs=>(CV.run hs).of _ ⟨_,rfl,rfl⟩)
def RBL(l n:Nat)(LB:Blk)(m:Nat)(Q:AV→Heap→Prop)(e:Exit)(s:St):Prop:=
 ∃Hf,Wn m s ⟨[],Hf⟩∧Hf[n]? =some .gone∧match e with
  | .normal=>Q (.bool true) (Hf.set n LB)
  | .ret=>Q (.bool false) (Hf.set n (.lpe l .ret))
  | .exit id=>Q (.bool false) (Hf.set n (.lpe l (.exit id)))
  |_=>False
theorem HCY.bodyL{l n:Nat}{ps:Array Tmp}{assign body:Code}{env:Env}{Ha:Heap}{args:List AV}{Q:AV→Heap→Prop}{LB:Blk}(hLB:LB= .loop l nt ps assign body env)(hn:Ha[n]? =some LB)(hps:ps.toList.length=args.length)(hlt: ∀p∈ps.toList,p<nt)
  (h:vc P nt Ha.length (fun _ _=>False) [.code assign,.back (fun s=>vc P nt Ha.length (RBL l n LB Ha.length Q) [.code body] s)] ⟨putPs ps.toList args env,Ha.set n .gone⟩):
  HCY P l args Ha Q:=by
 subst hLB
 exact HCY.bodyG hn hps hlt h
theorem RBL.nm{l n:Nat}{LB:Blk}{m:Nat}{Q:AV→Heap→Prop}{s:St}(Hf:Heap)(h1:Wn m s ⟨[],Hf⟩)(h2:Hf[n]? =some .gone)(h3:Q (.bool true) (Hf.set n LB)):RBL l n LB m Q .normal s:=⟨Hf,h1,h2,h3⟩
theorem RBL.rt{l n:Nat}{LB:Blk}{m:Nat}{Q:AV→Heap→Prop}{s:St}(Hf:Heap)(h1:Wn m s ⟨[],Hf⟩)(h2:Hf[n]? =some .gone)(h3:Q (.bool false) (Hf.set n (.lpe l .ret))):RBL l n LB m Q .ret s:=⟨Hf,h1,h2,h3⟩
theorem RBL.ex{l n:Nat}{LB:Blk}{m:Nat}{Q:AV→Heap→Prop}{id:Nat}{s:St}(Hf:Heap)(h1:Wn m s ⟨[],Hf⟩)(h2:Hf[n]? =some .gone)(h3:Q (.bool false) (Hf.set n (.lpe l (.exit id)))):RBL l n LB m Q (.exit id) s:=⟨Hf,h1,h2,h3⟩
theorem CV.rangeG{g:Operand}{ps:Array Tmp}{assign body:Code}{gf:Nat}{caps:List AV}(hg:evA st.env g= .fn gf caps)(hm:m≤st.H.length)
  (h: ∀l,HCH P gf (.yld l::caps) (st.H++[.loop l nt ps assign body st.env]) fun r H'=> ∃H2 x rest,H'=H2++x::rest∧H2.length=st.H.length∧belowH H2.length H2∧belowE H2.length st.env∧((x= .loop l nt ps assign body st.env∧vc P nt m R k ⟨st.env,H2⟩)∨ ∃c,x= .lpe l c∧vc P nt m R (.code c::k) ⟨st.env,H2⟩)):
  CV P nt m R (.code (.rangeFunc g ps assign body)::k) st:=by
 refine CV.mk fun k' hr=>?_
 obtain⟨r,rfl,hr'⟩:=hr
 refine VC.rangeG hg hm fun l=>(h l).mono ?_
 rintro r0 H' ⟨H2,x,rest,e,e1,e2,e3,hv⟩
 exact⟨H2,x,rest,e,e1,e2,e3,hv.imp (fun q=>⟨q.1,(CV.run q.2).of _ hr'⟩) fun⟨c,q1,q2⟩=>⟨c,q1,(CV.run q2).of _ ⟨_,rfl,hr'⟩⟩⟩
end
section
variable {P:Program} {b:Frame} {a:Act} {k:List Item} {cs:List Frame} {w:World}
theorem stepS_scope{c:Code}:step P (lone (b.atR a (.code (.scope c)::k)) cs w)= .next (lone (b.atR a (.code c:: .inScope c::k)) cs w):=
 step_lone_go (by simp[stepG,stepG.exec,Frame.atR])
theorem stepS_inScope{c:Code}:step P (lone (b.atR a (.inScope c::k)) cs w)= .next (lone (b.atR a k) cs w):=
 step_lone_go (by simp[stepG,stepG.exec,Frame.atR])
theorem wpInS_scope{F:Fence}{n:Nat}{Q:Exit→Act→World→Prop}{c:Code}(h:c.wpIn F n P (Exit.noGoto Q) a w):(Code.scope c).wpIn F n P Q a w:=by
 intro b k cs hro hb hr
 have h0:(lone (b.atR a (.code (.scope c)::k)) cs w).fenced P F:=fenced_calm hb hr rfl
 obtain⟨e,a₁,w₁,hq,harr⟩:=h b (.inScope c::k) cs hro hb hr
 cases e with
 |normal=>exact⟨.normal,a₁,w₁,hq,.head h0 stepS_scope (StepsIn.trans harr (.one (fenced_calm hb hr rfl) stepS_inScope))⟩
 |exit id=>
  have hx:exitTo id (.inScope c::k)=exitTo id k:=by simp[exitTo]
  exact⟨.exit id,a₁,w₁,hq,fun k' hk=> .head h0 stepS_scope (harr.1 k' (by rw[hx];exact hk)),
   fun hr' hk=>let ⟨k₁,h1,h2⟩:=harr.2 hr' (by rw[hx];exact hk);⟨k₁,h1,.head h0 stepS_scope h2⟩⟩
 |goto l=>exact hq.elim
 |ret=>exact⟨_,a₁,w₁,hq,.of_steps (.one h0 stepS_scope) harr⟩
 |panic ch=>exact⟨_,a₁,w₁,hq,.of_steps (.one h0 stepS_scope) harr⟩
 |outgrown=>exact⟨_,a₁,w₁,hq,.of_steps (.one h0 stepS_scope) harr⟩
end
section
variable {P:Program} {nt m:Nat} {R:Exit→St→Prop} {k:List It} {st:St}
theorem post_goto{F:Fence}{E:Cx}{l:Nat}{a:Act}{w:World}: ∀{k:List It},post P F nt E R k (.goto l) a w→ ∃st,R (.goto l) st
 |[],⟨st,h,_⟩=>⟨st,h⟩
 | .inBlock _::k,h=>post_goto (k:=k) h
 | .code _::k,h=>post_goto (k:=k) h
 | .back _::k,h=>post_goto (k:=k) h
 | .ops _ _::k,h=>post_goto (k:=k) h
theorem VC.scope{c:Code}(hR: ∀l st,¬ R (.goto l) st)(h:VC P nt m R (.code c::k) st):VC P nt m R (.code (.scope c)::k) st:=fun F E a w hF hE hg=>
 wpInS_scope (wpIn_mono (h F E a w hF hE hg) fun e a w hp=>by
  cases e with
  |goto l=>
   obtain⟨st,h⟩:=post_goto (k:=k) hp
   exact(hR l st h).elim
  |_=>exact hp)
theorem VC.label{l:Nat}(h:VC P nt m R k st):VC P nt m R (.code (.label l)::k) st:=fun F E a w hF hE hg=>wpIn_label (h F E a w hF hE hg)
end
section
variable {P:Program} {nt m:Nat} {R:Exit→St→Prop} {k:List Iv} {st:St}
theorem vc_scope_eq{c:Code}:vc P nt m R (.code (.scope c)::k) st=CV P nt m R (.code (.scope c)::k) st:=by
 rw[vc]
 all_goals (intros;simp_all)
theorem vc_label_eq{l:Nat}:vc P nt m R (.code (.label l)::k) st=CV P nt m R (.code (.label l)::k) st:=by
 rw[vc]
 all_goals (intros;simp_all)
theorem vc_scope{c:Code}(hR: ∀l st,¬ R (.goto l) st)(h:vc P nt m R (.code c::k) st):vc P nt m R (.code (.scope c)::k) st:=by
 rw[vc_scope_eq]
 refine CV.mk fun k' hr=>?_
 obtain⟨r,rfl,hr'⟩:=hr
 exact VC.scope hR ((CV.run h).of _ ⟨r,rfl,hr'⟩)
theorem vc_label{l:Nat}(h:vc P nt m R k st):vc P nt m R (.code (.label l)::k) st:=by
 rw[vc_label_eq]
 refine CV.mk fun k' hr=>?_
 obtain⟨r,rfl,hr'⟩:=hr
 exact VC.label ((CV.run h).of _ hr')
theorem Ret.noGoto{rs:List ResultVar}{Q:AV→Heap→Prop}(l:Nat)(st:St): ¬Ret P rs Q (.goto l) st:=fun h=>by
 obtain⟨h1,_⟩:=h
 rcases h1 with h1|h1<;>cases h1
end
mutual
def loV:AV→AV
 | .lst _ sz es=> .lst false sz (loE es)
 | .agg cs=> .agg (loL cs)
 | .tup cs=> .tup (loL cs)
 | .pp cs=> .pp (loL cs)
 | .fn f cs=> .fn f (loL cs)
 | .bf f cs=> .bf f (loL cs)
 | .any=> .any
 | .int k n=> .int k n
 | .bool b=> .bool b
 | .nilS=> .nilS
 | .nilP=> .nilP
 | .nilF=> .nilF
 | .row b n=> .row b n
 | .lp b o=> .lp b o
 | .rp b n i o=> .rp b n i o
 | .rg b n g=> .rg b n g
 | .yld l=> .yld l
 | .mp l=> .mp l
 | .val l=> .val l
 | .pm a b c d=> .pm a b c d
 | .alt a=> .alt a
 | .lf a=> .lf a
 | .ifc f cs=> .ifc f (loL cs)
def loL:List AV→List AV
 |[]=>[]
 |v::vs=>loV v::loL vs
def loE:List (List AV)→List (List AV)
 |[]=>[]
 |e::es=>loL e::loE es
end
theorem loL_length: ∀vs:List AV,(loL vs).length=vs.length
 |[]=>rfl
 |_::vs=>by simp[loL,loL_length vs]
theorem loE_length: ∀es:List (List AV),(loE es).length=es.length
 |[]=>rfl
 |_::es=>by simp[loE,loE_length es]
theorem loE_mem: ∀{es:List (List AV)} {sz:Nat},(∀e,e∈es→e.length=sz)→ ∀e,e∈loE es→e.length=sz
 |[],_,_,e,h=>by simp[loE]at h
 |x::es,sz,hh,e,h=>by
  simp only[loE,List.mem_cons]at h
  rcases h with rfl|h
  ·rw[loL_length];exact hh x (by simp)
  ·exact loE_mem (fun y hy=>hh y (by simp[hy])) e h
section
variable {S:Nat→Nat→Prop} {w:World}
mutual
theorem PV.lo: ∀(v:AV) (c:Value),PV S w v c→PV S w (loV v) c
 | .any,_,_=>trivial
 | .int _ _,_,hv=>hv
 | .bool _,_,hv=>hv
 | .nilS,_,hv=>hv
 | .nilP,_,hv=>hv
 | .nilF,_,hv=>hv
 | .agg cs,_,⟨a,e,hl⟩=>⟨a,e,PVL.lo cs _ hl⟩
 | .tup cs,_,⟨a,e,hl⟩=>⟨a,e,PVL.lo cs _ hl⟩
 | .lst f sz es,_,⟨A,cap,e,h1,h2,h3,h4,h5,h6⟩=>⟨A,cap,by rw[loE_length];exact e,by rw[loE_length];exact h1,h2,(fun h=>by cases h),fun ad ha=>⟨(h4 ad ha).1,PVE.lo sz es ad (h4 ad ha).2⟩,h5,loE_mem h6⟩
 | .row _ _,_,hv=>hv
 | .pp cs,_,⟨ad,e,h1,h2⟩=>⟨ad,e,h1,PVC.lo cs ad h2⟩
 | .lp _ _,_,hv=>hv
 | .rp _ _ _ _,_,hv=>hv
 | .rg _ _ _,_,hv=>hv
 | .fn _ cs,_,⟨a,e,hl⟩=>⟨a,e,PVL.lo cs _ hl⟩
 | .bf _ cs,_,⟨a,e,hl⟩=>⟨a,e,PVL.lo cs _ hl⟩
 | .yld _,_,hv=>hv
 | .mp _,_,hv=>hv
 | .val _,_,hv=>hv
 | .pm _ _ _ _,_,hv=>hv
 | .alt _,_,hv=>hv
 | .lf _,_,hv=>hv
 | .ifc _ cs,_,⟨a,e,hl⟩=>⟨a,e,PVL.lo cs _ hl⟩
theorem PVL.lo: ∀(vs:List AV) (l:List Value),PVL S w vs l→PVL S w (loL vs) l
 |[],_,hv=>hv
 |v::vs,_,⟨c,cs,e,h1,h2⟩=>⟨c,cs,e,PV.lo v c h1,PVL.lo vs cs h2⟩
theorem PVC.lo: ∀(vs:List AV) (ad:Addr),PVC S w vs ad→PVC S w (loL vs) ad
 |[],_,_=>trivial
 |v::vs,ad,⟨⟨c,h1,h2,h3,h4⟩,h5⟩=>⟨⟨c,h1,h2,h3,PV.lo v c h4⟩,PVC.lo vs _ h5⟩
theorem PVE.lo(sz:Nat): ∀(es:List (List AV)) (ad:Addr),PVE S w sz es ad→PVE S w sz (loE es) ad
 |[],_,_=>trivial
 |e::es,ad,⟨h1,h2⟩=>⟨PVC.lo e ad h1,PVE.lo sz es _ h2⟩
end
end
theorem VL.lo{κ:Cx}{vs:List AV}{l:List Value}(hp:AV.pureL vs=true)(h:VL κ vs l):VL κ (loL vs) l:=
 VL.of_pvl _ _ (PVL.lo _ _ (PVL.of_v _ _ hp h))
theorem HCH.lo{P:Program}{g:FuncId}{args:List AV}{H:Heap}{Q:AV→Heap→Prop}(h:HCH P g (loL args) H Q)(hp:AV.pureL args=true):HCH P g args H Q:=
 ⟨h.1,fun κ cargs hc hH hv=>h.2 κ cargs hc hH (hv.lo hp)⟩
theorem PC.lo{P:Program}{g:FuncId}{args:List AV}{v:AV}(h:PC P g (loL args) v)(hp:AV.pureL args=true):PC P g args v:=PC.mk (HCH.lo h.raw hp)
end Go.Fl
namespace Go.Fl
open Go.RowKit
theorem pva_iff{S:Nat→Nat→Prop}{w:World}{c:Value}: ∀{vs:List AV},PVA S w vs c↔ ∃v,v∈vs∧PV S w v c
 |[]=>by simp[PVA]
 |v::vs=>by simp[PVA,pva_iff (vs:=vs)]
theorem V.alt{κ:Cx}{vs:List AV}{c:Value}(h:V κ (.alt vs) c): ∃v,v∈vs∧V κ v c:=by
 obtain⟨v,h1,h2⟩:=pva_iff.1 (show PVA κ.S κ.w vs c from h)
 exact⟨v,h1,V.of_pv v c h2⟩
theorem HCH.altOut{P:Program}{g:FuncId}{args:List AV}{H H0:Heap}{vs:List AV}(h:HCH P g args H fun r H'=>r= .alt vs∧H'=H0):HCH P g args H fun r H'=>r∈vs∧H'=H0:=
 ⟨h.1,fun κ cargs hc hH hv=>(h.2 κ cargs hc hH hv).mono fun e w' ⟨r,c,κ',e1,⟨q1,q2⟩,e2,k1,k2,k3⟩=>by
  subst q1
  obtain⟨v,z1,z2⟩:=V.alt k3
  exact⟨v,c,κ',e1,⟨z1,q2⟩,e2,k1,k2,z2⟩⟩
theorem HCH.altArg{P:Program}{g:FuncId}{pre suf:List AV}{H:Heap}{vs:List AV}{Q:AV→Heap→Prop}(hne:vs≠[])(h: ∀v,v∈vs→HCH P g (pre++v::suf) H Q):HCH P g (pre++ .alt vs::suf) H Q:=by
 obtain⟨v0,hv0⟩:=List.exists_mem_of_ne_nil vs hne
 refine⟨(h v0 hv0).1,fun κ cargs hc hH hv=>?_⟩
 have hg:(pre++ .alt vs::suf)[pre.length]? =some (.alt vs):=by rw[getElem?_append_right (Nat.le_refl _),Nat.sub_self];rfl
 obtain⟨c,h1,h2⟩:=hv.get _ _ hg
 obtain⟨v,z1,z2⟩:=V.alt h2
 refine(h v z1).2 κ cargs hc hH ?_
 have:=hv.set pre.length (v:=v) (c:=c) z2
 rw[List.set_append_right _ _ (Nat.le_refl _),Nat.sub_self,List.set_cons_zero]at this
 have e:cargs.set pre.length c=cargs:=by
  apply List.ext_getElem?
  intro i
  rw[getElem?_set]
  split
  ·rename_i e;subst e
   split
   ·exact h1.symm
   ·rename_i hh;rw[getElem?_eq_none (by omega)]
  ·rfl
 rw[e]at this
 exact this
theorem PC.altArg{P:Program}{g:FuncId}{vs:List AV}{v:AV}(pre suf:List AV)(hne:vs≠[])(h: ∀u,u∈vs→PC P g (pre++u::suf) v):PC P g (pre++ .alt vs::suf) v:=
 PC.mk (HCH.altArg hne fun u hu=>(h u hu).raw)
theorem PC.bodyA{P:Program}{f:FuncId}{fn:Func}{c:Code}{args:List AV}{vs:List AV}(hf:P.funcs[f]? =some fn)(hname:(fn.name == "runtime.NumGoroutine")=false)(hb:fn.body=some c)(hn:args.length≤fn.ntmps)
  (h:lenL args→CV P fn.ntmps 0 (Ret P fn.results.toList fun r H=> ∃v,v∈vs∧Go.Fl.frz H r v) [.code c] ⟨argEnv 0 args,[]⟩):PC P f args (.alt vs):=by
 refine PC.mk ⟨enters hf hname (by rw[hb];rfl),fun κ cargs hc hH hvl=>?_⟩
 have h1:HCH P f args [] fun r H=> ∃v,v∈vs∧Go.Fl.frz H r v:=HCH.body hf hname hb hn (h (VL.len _ _ hvl))
 refine(h1.2 κ cargs hc hH hvl).mono ?_
 rintro e w' ⟨r,cv,κ',rfl,⟨v,hv,hq⟩,rfl,k1,k2,k3⟩
 have hpv:=frz_ok k1 _ _ _ hq k3
 refine⟨.alt vs,cv,{ S:=sealed κ',w:=κ'.w,ρ:=κ'.ρ,H:=[] },rfl,⟨rfl,rfl⟩,rfl,⟨fun b x hb=>(by have hb:([]:Heap)[b]? =some x:=hb;simp at hb),fun b b' hb=>absurd hb (Nat.not_lt_zero _),fun b hb=>absurd hb (Nat.not_lt_zero _),fun g o hs=>?_,k1.gls (κ':={ S:=sealed κ',w:=κ'.w,ρ:=κ'.ρ,H:=[] }) fun g o hs=>⟨.inl hs,SameAt.refl⟩⟩,?_,pva_iff.2 ⟨v,hv,hpv⟩⟩
 ·exact hs.elim (k1.swf g o) fun⟨b,q1,q2,q3⟩=>by rw[←q3];exact k1.lt b q1 q2
 ·have hno: ∀{b:Nat} {x:Blk},κ.H[b]? =some x→False:=fun h=>by rw[hH]at h;simp at h
  refine { s:=fun g o hs=>⟨.inl (k2.s g o hs).1,(k2.s g o hs).2⟩,box:=fun b ty cs sl hb=>(hno hb).elim,row:=fun b el sz es sl hb=>(hno hb).elim,rg:=fun b el sz es g hb=>(hno hb).elim,os:=k2.os,tape:=k2.tape,output:=k2.output,size:=k2.size,frame:=k2.frame,snew:=fun g o hs=>?_,own:=fun g ⟨b,hb,_⟩=>absurd hb (Nat.not_lt_zero _) }
  rcases hs with hs|⟨b,q1,q2,q3⟩
  ·exact k2.snew g o hs
  ·exact .inr ((k2.own g ⟨b,q1,q2,q3⟩).symm)
theorem vcP_alt{P:Program}{nt m:Nat}{R:Exit→St→Prop}{g:FuncId}{args args' a2:List AV}{dst:Option Nat}{rest:List COp}{k:List Iv}{env:Env}{H:Heap}{vs:List AV}(hc:PC P g a2 (.alt vs))(hp:AV.pureL args=true)(hf:frzL [] args a2)
  (h: ∀v,v∈vs→vc P nt m R (.ops rest::k) ⟨eput env dst v,H⟩):vcP P nt m R g args args' dst rest k ⟨env,H⟩:=
 vcP_raw ((hc.use (handsOn_pure hp hf) (by simp[AV.pure])).altOut.mono fun r H' ⟨q1,q2⟩=>by subst q2;exact h r q1)
open Go.ChangeShapes Go.WideShapes Go.Deep
def S0(W:World)(g o:Nat):Prop:=(W.cell? ⟨g,o,none⟩).isSome=true∨g<W.heap.size∧ ∃x,x∈gtab∧g=x.1∧o=x.2.length
def κ0(W:World):Cx:={ S:=S0 W,w:=W,ρ:=fun _=>⟨0,0,true,none⟩,H:=[] }
theorem κ0_conc(W:World)(hg:GlOk (S0 W) W):Conc (κ0 W):=by
 refine⟨fun b x hb=>(by have hb:([]:Heap)[b]? =some x:=hb;simp at hb),fun b b' hb=>absurd hb (Nat.not_lt_zero _),fun b hb=>absurd hb (Nat.not_lt_zero _),fun g o hs=>?_,hg⟩
 show g<W.heap.size
 rcases(show S0 W g o from hs)with hs|hs
 case inr=>exact hs.1
 unfold World.cell? at hs
 cases h:W.heap[g]? with
 |none=>simp[h]at hs
 |some x=>exact(Array.getElem?_eq_some_iff.1 h).1
theorem below_of{W:World}{κ':Cx}(h:StepM (κ0 W) κ'):Below W.heap.size W κ'.w:=
 ⟨h.os,h.tape,h.output,h.size,fun k hk=>h.frame k hk fun⟨b,hb,_⟩=>absurd hb (Nat.not_lt_zero _)⟩
def flatOk(P:Program)(e:TypeId)(sz:Nat):Bool:=
 match P.underlying e with
 |some (.struct fs)=>fs.size == sz&&oneCellFields P fs&&fs.toList.all fun f=>match P.underlying f.type with|some (.int .i64)=>true|_=>false
 |some (.int .i64)=>sz == 1
 |_=>false
def sliceFlat(P:Program)(t:TypeId)(sz:Nat):Bool:=match P.underlying t with|some (.slice e)=>P.cellsOf e == sz&&flatOk P e sz|_=>false
def structTys(P:Program)(t:TypeId):Option (List TypeId):=
 match P.underlying t with
 |some (.struct fs)=>if oneCellFields P fs&&P.cellTypes P.depth t == some (fs.toList.map (·.type))then some (fs.toList.map (·.type))else none
 |_=>none
def intT(P:Program)(t:TypeId):Bool:=match P.underlying t with|some (.int .i64)=>true|_=>false
abbrev iv(n:Int):AV:= .int .i64 n
section
variable {H:Type} {enc:TypeId×Value→H} {P:Program} {W:World} {base:Nat} {spare:Nat→Bool} {held:Bool}
theorem read_flat{e:TypeId}{sz n:Nat}{cs:List Value}{x:DataW H×List MemPlace}(hf:flatOk P e sz=true)(hl:cs.length=sz)(h:DataW.trod enc P W base spare held n e cs=some x): ∃ns:List Int,ns.length=sz∧cs=ns.map (Value.int .i64):=by
 unfold flatOk at hf
 split at hf
 ·rename_i fs hs
  simp only[Bool.and_eq_true,beq_iff_eq,List.all_eq_true]at hf
  obtain⟨⟨h1,h2⟩,h3⟩:=hf
  obtain⟨ys,n',_,_,_,hyl,hg⟩:=DataW.trod_struct hs h
  have key: ∀j (hj:j<cs.length),∃ k:Int,cs[j]= .int .i64 k:=by
   intro j hj
   have hjf:j<fs.size:=by omega
   have hfj:fs[j]? =some fs[j]:=Array.getElem?_eq_getElem hjf
   obtain⟨ho,hk⟩:=hone_of h2 j _ hfj
   have ht:=hg j _ hfj
   rw[ho,hk]at ht
   have hone:(cs.drop j).take 1=[cs[j]]:=by rw[List.drop_eq_getElem_cons hj];rfl
   rw[hone,getElem?_eq_getElem (by omega)]at ht
   have h4:=h3 fs[j] (by simp)
   split at h4
   ·rename_i hi
    obtain⟨k,hk,_⟩:=DataW.trod_int hi ht
    exact⟨k,by simpa using hk⟩
   ·cases h4
  refine⟨cs.map fun v=>match v with| .int _ k=>k|_=>0,by simpa using hl,?_⟩
  apply List.ext_getElem
  ·simp
  ·intro j hj _
   obtain⟨k,hk⟩:=key j hj
   simp[hk]
 ·rename_i hi
  obtain⟨k,hk,_⟩:=DataW.trod_int hi h
  exact⟨[k],by simpa[hk]using hl,by simpa using hk⟩
 ·cases hf
theorem PVC.of_ints{g:Nat}: ∀(ns:List Int) (off:Nat),(∀(j:Nat) (n:Int),ns[j]? =some n→W.cell? ⟨g,off+j,none⟩=some (.int .i64 n))→PVC (S0 W) W (ns.map iv) ⟨g,off,none⟩
 |[],_,_=>trivial
 |n::ns,off,h=>by
  have h0:=h 0 n rfl
  refine⟨⟨.int .i64 n,h0,by refine .inl ?_;rw[show W.cell? ⟨g,off,none⟩=_ from h0];rfl,rfl,rfl⟩,PVC.of_ints ns (off+1) fun j m hj=>?_⟩
  have:=h (j+1) m (by simpa using hj)
  rwa[show off+(j+1)=off+1+j from by omega]at this
theorem PVE.of_get{g sz:Nat}: ∀(es:List (List AV)) (off:Nat),(∀(i:Nat) (e:List AV),es[i]? =some e→PVC (S0 W) W e ⟨g,off+i*sz,none⟩)→PVE (S0 W) W sz es ⟨g,off,none⟩
 |[],_,_=>trivial
 |e::es,off,h=>by
  refine⟨by simpa using h 0 e rfl,PVE.of_get es (off+sz) fun i e' he=>?_⟩
  have:=h (i+1) e' (by simpa using he)
  rwa[show off+(i+1)*sz=off+sz+i*sz from by rw[Nat.add_mul];omega]at this
theorem lift_slice{t:TypeId}{sz fuel:Nat}{a:Option Addr}{len cap:Nat}{x:DataW H×List MemPlace}(hsp: ∀ad,a=some ad→ad.spot=none)(ht:sliceFlat P t sz=true)(h:DataW.trod enc P W base spare held fuel t [.slice a len cap]=some x):
  ∃ess:List (List Int),(∀e,e∈ess→e.length=sz)∧PV (S0 W) W (.lst false sz (ess.map fun e=>e.map iv)) (.slice a len cap):=by
 unfold sliceFlat at ht
 split at ht
 ·rename_i e hs
  simp only[Bool.and_eq_true,beq_iff_eq]at ht
  obtain⟨hC,hf⟩:=ht
  rcases open_slice hs h with⟨hcs,_⟩|⟨a',len',cap',m,n,D,Pl,hcs,hb,hl,hm,hmm,hx,hi⟩
  ·simp only[List.cons.injEq,Value.slice.injEq,and_true]at hcs
   obtain⟨rfl,rfl,rfl⟩:=hcs
   exact⟨[],by simp,none,0,rfl,by simp,by simp[maxLen],by simp,by simp,by simp,by simp⟩
  ·simp only[List.cons.injEq,Value.slice.injEq,and_true]at hcs
   obtain⟨rfl,rfl,rfl⟩:=hcs
   have hlm:len≤m:=by rw[hmm];split<;>omega
   have hspa:=hsp _ rfl
   obtain⟨g,off,sp⟩:=a'
   simp only at hspa
   subst hspa
   have key: ∀i,i<len→ ∃ns:List Int,ns.length=sz∧ ∀(j:Nat) (k:Int),ns[j]? =some k→W.cell? ⟨g,off+i*sz+j,none⟩=some (.int .i64 k):=by
    intro i hil
    obtain⟨cs',hc,htr⟩:=hi i (by omega)
    obtain⟨_,hcl,hat⟩:=World.cells?_some hc
    rw[hC]at hcl hat
    obtain⟨ns,h1,h2⟩:=read_flat hf hcl htr
    refine⟨ns,h1,fun j k hj=>?_⟩
    have hjl:j<sz:=by have:=(List.getElem?_eq_some_iff.1 hj).1;omega
    have:=hat j hjl
    rw[h2,getElem?_map,hj,add_add]at this
    unfold Addr.add at this
    split at this
    ·rename_i h0
     rw[show off+i*sz+j=off from by omega];exact this
    ·rw[show off+i*sz+j=off+(i*sz+j)from by omega];exact this
   classical
   refine⟨(List.range len).map fun i=>if hh:i<len then Classical.choose (key i hh)else [],fun e he=>?_,some ⟨g,off,none⟩,cap,by simp,by simpa using hl,hm,by simp,fun ad ha=>?_,by simp,fun e he=>?_⟩
   ·obtain⟨i,hi2,rfl⟩:=List.mem_map.1 he
    have hil:=List.mem_range.1 hi2
    rw[dif_pos hil]
    exact(Classical.choose_spec (key i hil)).1
   ·cases ha
    refine⟨fun _=>rfl,PVE.of_get _ _ fun i e he=>?_⟩
    rw[getElem?_map,getElem?_map]at he
    have hil:i<len:=by
     rcases Nat.lt_or_ge i len with h|h
     ·exact h
     ·rw[getElem?_eq_none (by simpa using h)]at he;cases he
    rw[List.getElem?_range hil]at he
    simp only[Option.map_some,dif_pos hil,Option.some.injEq]at he
    subst he
    exact PVC.of_ints _ _ (Classical.choose_spec (key i hil)).2
   ·obtain⟨e0,he0,rfl⟩:=List.mem_map.1 he
    obtain⟨i,hi2,rfl⟩:=List.mem_map.1 he0
    have hil:=List.mem_range.1 hi2
    rw[dif_pos hil,length_map]
    exact(Classical.choose_spec (key i hil)).1
 ·cases ht
theorem lift_slice2{t:TypeId}{sz fuel:Nat}{a:Option Addr}{len cap:Nat}{x:DataW H×List MemPlace}(hsz:0<sz)(hspare: ∀b,spare b=true)(ht:sliceFlat P t sz=true)(h:DataW.trod enc P W base spare held fuel t [.slice a len cap]=some x):
  ∃ess:List (List Int),(∀e,e∈ess→e.length=sz)∧PV (S0 W) W (.lst false sz (ess.map fun e=>e.map iv)) (.slice a len cap):=by
 by_cases h0:cap=0
 ·subst h0
  have hl:len=0∧(a=none→True):=by
   unfold sliceFlat at ht
   split at ht
   ·rename_i e hs
    rcases open_slice hs h with⟨hcs,_⟩|⟨a',len',cap',m,n,D,Pl,hcs,hb,hl,hm,hmm,hx,hi⟩
    ·simp only[List.cons.injEq,Value.slice.injEq,and_true]at hcs
     exact⟨by simp_all,fun _=>trivial⟩
    ·simp only[List.cons.injEq,Value.slice.injEq,and_true]at hcs
     obtain⟨_,rfl,rfl⟩:=hcs
     exact⟨by omega,fun _=>trivial⟩
   ·cases ht
  obtain⟨rfl,_⟩:=hl
  exact⟨[],by simp,a,0,rfl,by simp,by simp[maxLen],by simp,fun ad _=>⟨fun hne=>absurd rfl hne,trivial⟩,by simp,by simp⟩
 ·refine lift_slice (fun ad ha=>?_) ht h
  subst ha
  unfold sliceFlat at ht
  split at ht
  ·rename_i e hs
   simp only[Bool.and_eq_true,beq_iff_eq]at ht
   obtain⟨hC,hf⟩:=ht
   rcases open_slice hs h with⟨hcs,_⟩|⟨a',len',cap',m,n,D,Pl,hcs,hb,hl,hm,hmm,hx,hi⟩
   ·simp at hcs
   ·simp only[List.cons.injEq,Value.slice.injEq,and_true,Option.some.injEq]at hcs
    obtain⟨rfl,rfl,rfl⟩:=hcs
    rw[hspare,if_pos rfl]at hmm
    obtain⟨cs',hc,_⟩:=hi 0 (by omega)
    obtain⟨_,hcl,hat⟩:=World.cells?_some hc
    rw[hC]at hat
    have h1:=hat 0 hsz
    rw[Nat.zero_mul]at h1
    have ha0:(ad.add 0).add 0=ad:=by unfold Addr.add;simp
    rw[ha0]at h1
    obtain⟨g,o,sp⟩:=ad
    cases sp with
    |none=>rfl
    |some sp=>
     exfalso
     obtain⟨v,hv⟩: ∃v,cs'[0]? =some v:=⟨cs'[0]'(by omega),getElem?_eq_getElem (by omega)⟩
     rw[hv]at h1
     unfold World.cell? at h1
     split at h1<;>simp_all
  ·cases ht
def sliceNest(P:Program)(t:TypeId)(sz:Nat):Bool:=match P.underlying t with|some (.slice e)=>P.cellsOf e == 1&&sliceFlat P e sz|_=>false
theorem lift_nest{t:TypeId}{sz fuel:Nat}{a:Option Addr}{len cap:Nat}{x:DataW H×List MemPlace}(hsp: ∀ad,a=some ad→ad.spot=none)(hsz:0<sz)(hspare: ∀b,spare b=true)(ht:sliceNest P t sz=true)(h:DataW.trod enc P W base spare held fuel t [.slice a len cap]=some x):
  ∃esss:List (List (List Int)),(∀ess,ess∈esss→ ∀e,e∈ess→e.length=sz)∧PV (S0 W) W (.lst false 1 (esss.map fun ess=>[.lst false sz (ess.map fun e=>e.map iv)])) (.slice a len cap):=by
 unfold sliceNest at ht
 split at ht
 ·rename_i e hs
  simp only[Bool.and_eq_true,beq_iff_eq]at ht
  obtain⟨hC,hf⟩:=ht
  rcases open_slice1 hs hC h with⟨hcs,_⟩|⟨a',len',cap',m,n,Vf,D,Pl,hcs,hb,hl,hm,hmm,hx,hi⟩
  ·simp only[List.cons.injEq,Value.slice.injEq,and_true]at hcs
   obtain⟨rfl,rfl,rfl⟩:=hcs
   exact⟨[],by simp,none,0,rfl,by simp,by simp[maxLen],by simp,by simp,by simp,by simp⟩
  ·simp only[List.cons.injEq,Value.slice.injEq,and_true]at hcs
   obtain⟨rfl,rfl,rfl⟩:=hcs
   have hlm:len≤m:=by rw[hmm];split<;>omega
   have hspa:=hsp _ rfl
   obtain⟨g,off,sp⟩:=a'
   simp only at hspa
   subst hspa
   have hse: ∃e2,P.underlying e=some (.slice e2):=by
    unfold sliceFlat at hf
    split at hf
    ·exact⟨_,by assumption⟩
    ·cases hf
   obtain⟨e2,hse⟩:=hse
   have key: ∀i,i<len→ ∃ess:List (List Int),(∀e,e∈ess→e.length=sz)∧ ∃c,W.cell? ⟨g,off+i,none⟩=some c∧c.oneCell'=true∧PV (S0 W) W (.lst false sz (ess.map fun e=>e.map iv)) c:=by
    intro i hil
    obtain⟨hc,htr⟩:=hi i (by omega)
    have hci:W.cell? ⟨g,off+i,none⟩=some (Vf i):=by
     unfold Addr.add at hc
     split at hc
     ·rename_i h0;rw[show off+i=off from by omega];exact hc
     ·exact hc
    rcases open_slice hse htr with⟨hcs,_⟩|⟨a2,l2,c2,m2,n2,D2,Pl2,hcs,_⟩
    ·simp only[List.cons.injEq,and_true]at hcs
     rw[hcs]at htr hci
     obtain⟨ess,g1,g2⟩:=lift_slice2 hsz hspare hf htr
     exact⟨ess,g1,_,hci,rfl,g2⟩
    ·simp only[List.cons.injEq,and_true]at hcs
     rw[hcs]at htr hci
     obtain⟨ess,g1,g2⟩:=lift_slice2 hsz hspare hf htr
     exact⟨ess,g1,_,hci,rfl,g2⟩
   classical
   refine⟨(List.range len).map fun i=>if hh:i<len then Classical.choose (key i hh)else [],fun ess he=>?_,some ⟨g,off,none⟩,cap,by simp,by simpa using hl,hm,by simp,fun ad ha=>?_,by simp,fun e he=>?_⟩
   ·obtain⟨i,hi2,rfl⟩:=List.mem_map.1 he
    have hil:=List.mem_range.1 hi2
    rw[dif_pos hil]
    exact(Classical.choose_spec (key i hil)).1
   ·cases ha
    refine⟨fun _=>rfl,PVE.of_get _ _ fun i e he=>?_⟩
    rw[getElem?_map,getElem?_map]at he
    have hil:i<len:=by
     rcases Nat.lt_or_ge i len with h|h
     ·exact h
     ·rw[getElem?_eq_none (by simpa using h)]at he;cases he
    rw[List.getElem?_range hil]at he
    simp only[Option.map_some,dif_pos hil,Option.some.injEq]at he
    subst he
    obtain⟨c,q1,q2,q3⟩:=(Classical.choose_spec (key i hil)).2
    rw[Nat.mul_one]
    exact⟨⟨c,q1,by refine .inl ?_;rw[q1];rfl,q2,q3⟩,trivial⟩
   ·obtain⟨e0,he0,rfl⟩:=List.mem_map.1 he
    rfl
 ·cases ht
theorem cell_slice2{r:Reach}{b0:Nat}{t:TypeId}{v:Value}(ht:(match P.underlying t with|some (.slice _)=>true|_=>false)=true)(hv:Cell.okWide P W r b0 t v): ∃a len cap,v= .slice a len cap∧ ∀ad,a=some ad→ad.spot=none:=by
 split at ht
 ·rename_i e hs
  simp only[Cell.okWide,hs,Cell.ok]at hv
  split at hv
  all_goals first|(rename_i h1 _;cases h1;done)|(rename_i h1;cases h1;done)|skip
  all_goals simp_all
  all_goals first|exact hv.2.2.2.1|(obtain⟨_,_,_,h,_⟩:=hv;exact h)|skip
 ·cases ht
theorem cell_slice{r:Reach}{b0:Nat}{t:TypeId}{sz:Nat}{v:Value}(ht:sliceFlat P t sz=true)(hv:Cell.okWide P W r b0 t v): ∃a len cap,v= .slice a len cap∧ ∀ad,a=some ad→ad.spot=none:=by
 unfold sliceFlat at ht
 split at ht
 ·rename_i e hs
  simp only[Cell.okWide,hs,Cell.ok]at hv
  split at hv
  all_goals first|(rename_i h1 _;cases h1;done)|(rename_i h1;cases h1;done)|skip
  all_goals simp_all
  all_goals first|exact hv.2.2.2.1|(obtain⟨_,_,_,h,_⟩:=hv;exact h)|skip
 ·cases ht
end
def structOk(P:Program)(t:TypeId)(tys:List TypeId):Bool:=structTys P t == some tys&&P.cellsOf t == tys.length
section
variable {H:Type} {enc:TypeId×Value→H} {P:Program} {W:World} {base:Nat} {spare:Nat→Bool} {held:Bool}
theorem lift_struct{t:TypeId}{tys:List TypeId}{r:Reach}{b0:Nat}{v:Value}{d:DataW H}{p:List MemPlace}(hst:structOk P t tys=true)(hv:Value.okWide P W r b0 t v)(h:DataW.Trod enc P W base spare held t v d p):
  ∃cs:List Value,v= .agg cs.toArray∧cs.length=tys.length∧ ∀(j:Nat) (c:Value) (u:TypeId),cs[j]? =some c→tys[j]? =some u→Cell.okWide P W r b0 u c∧ ∃n y,DataW.trod enc P W base spare held n u [c]=some y:=by
 unfold structOk at hst
 simp only[Bool.and_eq_true,beq_iff_eq]at hst
 obtain⟨hst,hcz⟩:=hst
 unfold structTys at hst
 split at hst
 ·rename_i fs hs
  split at hst
  ·rename_i hc
   simp only[Bool.and_eq_true,beq_iff_eq]at hc
   obtain⟨hone,hct⟩:=hc
   cases hst
   simp only[Value.okWide,hs]at hv
   obtain⟨cs,rfl,hsz,ts,hts,_,hrow⟩:=hv
   rw[hct]at hts
   cases hts
   have hsz2:cs.size=fs.size:=by rw[hsz,hcz];simp
   refine⟨cs.toList,by simp,by simp[hsz2],fun j c u hj hu=>?_⟩
   have hj':cs[j]? =some c:=by simpa using hj
   have hjl:j<fs.size:=by have:=(Array.getElem?_eq_some_iff.1 hj').1;omega
   obtain⟨u',hu',hok⟩:=hrow j c hj'
   rw[Nat.mod_eq_of_lt (by simpa using hjl),hu]at hu'
   cases hu'
   refine⟨hok,?_⟩
   obtain⟨fuel,hf⟩:=h
   obtain⟨ys,n',_,_,_,hyl,hg⟩:=DataW.trod_struct hs hf
   have hfj:fs[j]? =some fs[j]:=Array.getElem?_eq_getElem hjl
   obtain⟨ho,hk⟩:=hone_of hone j _ hfj
   have hty:u=fs[j].type:=by
    rw[getElem?_map]at hu
    simp[hjl]at hu
    exact hu.symm
   have ht:=hg j _ hfj
   rw[ho,hk]at ht
   have hcells:(Value.cells (.agg cs)).toList=cs.toList:=by simp[Value.cells]
   rw[hcells]at ht
   have hjl2:j<cs.toList.length:=by simp;omega
   have h1:(cs.toList.drop j).take 1=[c]:=by
    rw[List.drop_eq_getElem_cons hjl2]
    have:cs.toList[j]=c:=by
     have:=getElem?_eq_getElem hjl2
     rw[this]at hj
     exact Option.some.inj hj
    rw[this];rfl
   rw[h1,getElem?_eq_getElem (by omega)]at ht
   exact⟨n',_,by rw[hty];exact ht⟩
  ·cases hst
 ·cases hst
theorem read_int{t:TypeId}{n:Nat}{c:Value}{y:DataW H×List MemPlace}(ht:intT P t=true)(h:DataW.trod enc P W base spare held n t [c]=some y): ∃k:Int,c= .int .i64 k:=by
 unfold intT at ht
 split at ht
 ·rename_i hi
  obtain⟨k,hk,_⟩:=DataW.trod_int hi h
  exact⟨k,by simpa using hk⟩
 ·cases ht
theorem Below.trodAll{W':World}{spare':Nat→Bool}(hl:laidOutB P=true)(hb:Below W.heap.size W W'): ∀(ts:List TypeId) (vs:List Value) (ds:List (DataW H)) (ps:List MemPlace),(∀t∈ts,P.readableRec t=true∧t<P.types.size)→
  DataW.TrodAll enc P W 0 (fun _=>true) true ts vs ds ps→(∀x∈ps,x.block<W.heap.size∧spare' x.block=true)→DataW.TrodAll enc P W' 0 spare' true ts vs ds ps
 |[],[],[],_,_,h,_=>h
 |t::ts,v::vs,d::ds,_,hr,⟨p,q,h1,h2,e⟩,hs=>by
  subst e
  exact⟨p,q,WideElems.Trod_stays hl (hr t (by simp)).1 (hr t (by simp)).2 h1 (fun x hx=>hb.same (hs x (by simp[hx])).1) (fun x hx=>(hs x (by simp[hx])).2),
   Below.trodAll hl hb ts vs ds q (fun t' ht=>hr t' (by simp[ht])) h2 (fun x hx=>hs x (by simp[hx])),rfl⟩
theorem post_true{f:Func}{s:ChangeSpec}{apart fresh handsOn again:Bool}{W W':World}{args:Array Value}{ds gs:List (DataW H)}{before:List MemPlace}{tb:TypeId}
  (hW:DataW.Whole enc P f.params.toList s.vars apart W args.toList ds gs before) (hb:Below W.heap.size W W') (hres:f.resultTypes= #[tb]) (hbool:P.underlying tb=some .bool) (hvars:s.vars=[])
  (hspec:s.fn H (ds++[])={ results:=[.lit (.bool true)],args:=ds }) (hl:laidOutB P=true) (hr: ∀t∈f.params.toList,P.readableRec t=true∧t<P.types.size):
  s.post enc P f apart fresh handsOn again W args (.bool true) W':=by
 have hW0:=hW
 obtain⟨p,q,hA,hV,rfl,hz,hn⟩:=hW
 rw[hvars]at hV
 obtain⟨rfl,rfl⟩:=trodVars_none hV
 have hlt: ∀x∈p,x.block<W.heap.size:=fun x hx=>hW0.lt x (by simp[hx])
 have hargs: ∀sp:Nat→Bool,(∀x∈p,sp x.block=true)→DataW.TrodAll enc P W' 0 sp true f.params.toList args.toList (s.fn H (ds++[])).args p:=fun sp hsp=>by
  rw[hspec];exact Below.trodAll hl hb _ _ _ _ hr hA fun x hx=>⟨hlt x hx,hsp x hx⟩
 have hresd: ∀(b:Nat) (sp:Nat→Bool) (hd:Bool),DataW.TrodAll enc P W' b sp hd f.resultTypes.toList ((Value.bool true).resultList f.resultTypes.size) (s.fn H (ds++[])).results []:=fun b sp hd=>by
  rw[hspec,hres];exact trodAll_mk1 (shut_bool hbool true)
 have hvs: ∀sp:Nat→Bool,DataW.TrodVars enc P W' sp s.vars (s.fn H (ds++[])).vars []:=fun sp=>by
  rw[hspec,hvars];rfl
 have hold: ∀x∈p,(fun b=>decide (b<W.heap.size)) x.block=true:=fun x hx=>by simpa using hlt x hx
 refine⟨ds,[],p++[],[],p,[],hW0,hresd _ _ _,hargs _ hold,hvs _,World.keptBut_mono (fun x hx=>⟨hx,?_⟩) (hb.frame (· ∈p++[])),fun _=>?_⟩
 ·exact Or.inr (List.mem_append.1 hx)
 ·refine⟨ok_one hres rfl (okWide_bool_mk hbool true),_,_,([]++p)++[],⟨[]++p,[],trodAll_append (hargs _ (fun _ _=>rfl)) (hresd _ _ _),hvs _,rfl,?_,?_⟩,?_⟩
  ·intro b off hp
   have hp':MemPlace.cell b off∈p:=by simpa using hp
   rw[hb.frozen (p:=⟨b,off,none⟩) (hlt _ hp')]
   exact hz b off (by simpa using hp)
  ·intro ha
   simpa using hn ha
  ·intro x hx _
   simpa using hx
end
theorem trodAll_length{H:Type}{enc:TypeId×Value→H}{P:Program}{W:World}{base:Nat}{spare:Nat→Bool}{held:Bool}: ∀{ts:List TypeId} {vs:List Value} {ds:List (DataW H)} {ps:List MemPlace},DataW.TrodAll enc P W base spare held ts vs ds ps→vs.length=ts.length∧ds.length=ts.length
 |[],[],[],_,_=>⟨rfl,rfl⟩
 |_::_,_::_,_::_,_,⟨_,_,_,h,_⟩=>by have:=trodAll_length h;simp[this]
section
variable {H:Type} {enc:TypeId×Value→H} {P:Program} {W:World} {base:Nat} {spare:Nat→Bool} {held:Bool}
end
theorem pvc_of_cells{S:Nat→Nat→Prop}{w:World}{g:Nat}{k:IntKind}: ∀(l:List Int) (off:Nat),(∀i,i<l.length→w.cell? ⟨g,off+i,none⟩=some (.int k (l.getD i 0))∧S g (off+i))→PVC S w (l.map (.int k)) ⟨g,off,none⟩
 |[],_,_=>trivial
 |x::l,off,h=>by
  obtain⟨h1,h2⟩:=h 0 (by simp)
  refine⟨⟨.int k x,by simpa using h1,by simpa using h2,rfl,rfl⟩,pvc_of_cells l (off+1) fun i hi=>?_⟩
  have:=h (i+1) (by simp;omega)
  rw[show off+(i+1)=off+1+i from by omega]at this
  simpa using this
def fieldAt(P:Program)(t:TypeId)(i:Nat):Option (Nat×TypeId):=match P.underlying t with|some (.struct fs)=>fs[i]?.map fun f=>(f.offset,f.type)|_=>none
def isStruct(P:Program)(t:TypeId):Bool:=match P.underlying t with|some (.struct _)=>true|_=>false
section
variable {H:Type} {enc:TypeId×Value→H} {P:Program} {W:World} {base:Nat} {spare:Nat→Bool} {held:Bool}
theorem trod_field{t u:TypeId}{i off n:Nat}{cs:List Value}{x:DataW H×List MemPlace}(hf:fieldAt P t i=some (off,u))(h:DataW.trod enc P W base spare held n t cs=some x): ∃n' y,DataW.trod enc P W base spare held n' u ((cs.drop off).take (P.cellsOf u))=some y:=by
 unfold fieldAt at hf
 split at hf
 ·rename_i fs hs
  obtain⟨f,hfi,he⟩:=Option.map_eq_some_iff.1 hf
  obtain⟨ys,n',_,_,_,hyl,hg⟩:=DataW.trod_struct hs h
  simp only[Prod.mk.injEq]at he
  obtain⟨rfl,rfl⟩:=he
  have hi:=hg i f hfi
  have hil:=(Array.getElem?_eq_some_iff.1 hfi).1
  rw[getElem?_eq_getElem (by omega)]at hi
  exact⟨_,_,hi⟩
 ·cases hf
theorem lift_cells{t:TypeId}{tys:List TypeId}{r:Reach}{b0:Nat}{v:Value}{d:DataW H}{p:List MemPlace}(hst:isStruct P t=true)(hct:P.cellTypes P.depth t=some tys)(hcz:P.cellsOf t=tys.length)(hv:Value.okWide P W r b0 t v)(h:DataW.Trod enc P W base spare held t v d p):
  ∃cs:List Value,v= .agg cs.toArray∧cs.length=tys.length∧(∀(j:Nat) (c:Value) (u:TypeId),cs[j]? =some c→tys[j]? =some u→Cell.okWide P W r b0 u c)∧ ∃n x,DataW.trod enc P W base spare held n t cs=some x:=by
 unfold isStruct at hst
 split at hst
 ·rename_i fs hs
  simp only[Value.okWide,hs]at hv
  obtain⟨cs,rfl,hsz,ts,hts,_,hrow⟩:=hv
  rw[hct]at hts
  cases hts
  refine⟨cs.toList,by simp,by simp[hsz,hcz],fun j c u hj hu=>?_,?_⟩
  ·have hj':cs[j]? =some c:=by simpa using hj
   have hjl:j<tys.length:=by have:=(Array.getElem?_eq_some_iff.1 hj').1;omega
   obtain⟨u',hu',hok⟩:=hrow j c hj'
   rw[Nat.mod_eq_of_lt (by simpa using hjl),hu]at hu'
   cases hu'
   exact hok
  ·obtain⟨fuel,hf⟩:=h
   have hcells:(Value.cells (.agg cs)).toList=cs.toList:=by simp[Value.cells]
   rw[hcells]at hf
   exact⟨_,_,hf⟩
 ·cases hst
end
def wOk{H:Type}(P:Program)(t:TypeId)(d:DataW H):Prop:= ∀n,n∈d.weights P t→n≤reachBytes
theorem law_carded2{H:Type}{enc:TypeId×Value→H}{a:Assume}{C:Checked}{os:Os}{f:FuncId}{fn:Func}{s:ChangeSpec}{conds:List PathCond}{apart fresh handsOn again:Bool}{tb:TypeId}{X:World→Array Value→Prop}
  (hX: ∀(w w':World) (args:Array Value),w.heap=w'.heap→X w args→X w' args)
  (own:ownKnob C.prog.godebug=none) (started:os.Started) (noInit:C.prog.inits.idxOf? f=none) (hfn:C.prog.funcs[f]? =some fn)
  (witness: ∃(w:World) (tape:Tape) (i:Input),w.os=os∧(w.forCall tape i).Shaped C.prog∧i.vars=[]∧Input.okWide C.prog (w.forCall tape i) .any w.heap.size f i∧
   ((s.pre enc C.prog fn conds apart (w.forCall tape i).memory i.args∧X (w.forCall tape i).memory i.args)∧sizedMet enc C.prog fn (OpenSpec.ofChange s) apart (w.forCall tape i).memory i.args)∧a.holds C.prog (lone (Frame.enter C.prog f i.args .normal) [] (w.forCall tape i)))
  (hres:fn.resultTypes= #[tb]) (hbool:C.prog.underlying tb=some .bool) (hvars:s.vars=[]) (hvt:s.plain.varTypes C.prog=[])
  (hspec: ∀ds:List (DataW H),ds.length=fn.params.size→s.fn H (ds++[])={ results:=[.lit (.bool true)],args:=ds })
  (hl:laidOutB C.prog=true) (hr:(fn.params.toList.all fun t=>C.prog.readableRec t&&decide (t<C.prog.types.size))=true)
  (hgl: ∀W args,W.ShapedOpen C.prog→X W args→GlOk (S0 W) W)
  (hlaw: ∀(W:World) (base:Nat) (args:Array Value) (ds:List (DataW H)) (p:List MemPlace),(∀(j:Nat) t v,fn.params[j]? =some t→args[j]? =some v→Value.okWide C.prog W .any base t v)→
   DataW.TrodAll enc C.prog W 0 (fun _=>true) true fn.params.toList args.toList ds p→(∀n,n∈DataW.weightsEach C.prog fn.params.toList ds→n≤reachBytes)→ ∃avs,PC C.prog f avs (.bool true)∧VL (κ0 W) avs args.toList):
  ReturnsInHanded a C os f .any (fun w args=>(s.pre enc C.prog fn conds apart w args∧X w args)∧sizedMet enc C.prog fn (OpenSpec.ofChange s) apart w args) (s.post enc C.prog fn apart fresh handsOn again):=by
 refine returnsInHanded_of_calls own started noInit witness ?_
 intro w tape i _ hsh _ hok hpre _
 obtain⟨_,_,_,fn',hfn',_,_,_,_,hval⟩:=hok
 obtain rfl:fn'=fn:=Option.some.inj (hfn'.symm.trans hfn)
 obtain⟨⟨⟨ds,gs,before,hw,_⟩,hx⟩,hz⟩:=hpre
 have hW0:=DataW.Whole.of_heap (w':=w.forCall tape i) (by rfl) hw
 have hXW:=hX _ (w.forCall tape i) _ (by rfl) hx
 have hsz:=hz.weights hw
 generalize w.forCall tape i=W at*
 have hW:=hW0
 obtain⟨p,q,hA,hV,rfl,_,_⟩:=hW
 rw[hvars]at hV
 obtain⟨rfl,rfl⟩:=trodVars_none hV
 obtain⟨avs,hpc,hvl⟩:=hlaw W _ i.args ds p hval hA (by
  have e:(OpenSpec.ofChange s).bare.plain.varTypes C.prog=[]:=hvt
  rw[e,append_nil,append_nil]at hsz
  intro n hn
  have:=List.all_eq_true.1 hsz n hn
  simpa using this)
 have hc:=hpc.raw.2 (κ0 W) i.args.toList (κ0_conc W (hgl W i.args hsh hXW)) rfl hvl
 rw[Array.toArray_toList]at hc
 refine hc.mono ?_
 rintro e W' ⟨r,c,κ',rfl,⟨rfl,_⟩,rfl,_,h2,h3⟩
 have h3:c= .bool true:=h3
 subst h3
 refine ChangeSpec.post_blind (post_true hW0 (below_of h2) hres hbool hvars (hspec ds (by simpa using (trodAll_length hA).2)) hl fun t ht=>?_)
 have:=List.all_eq_true.1 hr t ht
 simpa using this
theorem mem_weightsEach{H:Type}{P:Program}: ∀(ts:List TypeId) (ds:List (DataW H)) (i:Nat) (t:TypeId) (d:DataW H) (n:Nat),ts[i]? =some t→ds[i]? =some d→n∈d.weights P t→n∈DataW.weightsEach P ts ds
 |[],_,_,_,_,_,h,_,_=>by simp at h
 |_::_,[],_,_,_,_,_,h,_=>by simp at h
 |t::ts,d::ds,0,_,_,n,ht,hd,h=>by
  simp only[List.getElem?_cons_zero,Option.some.injEq]at ht hd
  subst ht;subst hd
  exact List.mem_append_left _ h
 |t::ts,d::ds,i+1,_,_,n,ht,hd,h=>List.mem_append_right _ (mem_weightsEach ts ds i _ _ n (by simpa using ht) (by simpa using hd) h)
theorem mem_weightsAll{H:Type}{P:Program}{e:TypeId}{n:Nat}: ∀(ds:List (DataW H)) (d:DataW H),d∈ds→n∈d.weights P e→n∈DataW.weightsAll P e ds
 |[],_,h,_=>by simp at h
 |x::ds,d,h,hn=>by
  rcases List.mem_cons.1 h with rfl|h
  ·exact List.mem_append_left _ hn
  ·exact List.mem_append_right _ (mem_weightsAll ds d h hn)
section
variable {H:Type} {enc:TypeId×Value→H} {P:Program} {W:World} {base:Nat} {spare:Nat→Bool} {held:Bool}
theorem trod_fieldW{t u:TypeId}{i off n:Nat}{cs:List Value}{x:DataW H×List MemPlace}(hf:fieldAt P t i=some (off,u))(h:DataW.trod enc P W base spare held n t cs=some x)(hw:wOk P t x.1): ∃n' y,DataW.trod enc P W base spare held n' u ((cs.drop off).take (P.cellsOf u))=some y∧wOk P u y.1:=by
 unfold fieldAt at hf
 split at hf
 ·rename_i fs hs
  obtain⟨f,hfi,he⟩:=Option.map_eq_some_iff.1 hf
  obtain⟨ys,n',_,hx,_,hyl,hg⟩:=DataW.trod_struct hs h
  simp only[Prod.mk.injEq]at he
  obtain⟨rfl,rfl⟩:=he
  have hi:=hg i f hfi
  have hil:=(Array.getElem?_eq_some_iff.1 hfi).1
  rw[getElem?_eq_getElem (by omega)]at hi
  refine⟨_,_,hi,fun k hk=>hw k ?_⟩
  rw[hx]
  simp only[DataW.weights,hs]
  exact mem_weightsEach _ _ i _ _ k (by rw[getElem?_map,Array.getElem?_toList,hfi];rfl) (by rw[getElem?_map,getElem?_eq_getElem (by omega)];rfl) hk
 ·cases hf
theorem lift_cellsW{t:TypeId}{tys:List TypeId}{r:Reach}{b0:Nat}{v:Value}{d:DataW H}{p:List MemPlace}(hst:isStruct P t=true)(hct:P.cellTypes P.depth t=some tys)(hcz:P.cellsOf t=tys.length)(hv:Value.okWide P W r b0 t v)(h:DataW.Trod enc P W base spare held t v d p):
  ∃cs:List Value,v= .agg cs.toArray∧cs.length=tys.length∧(∀(j:Nat) (c:Value) (u:TypeId),cs[j]? =some c→tys[j]? =some u→Cell.okWide P W r b0 u c)∧ ∃n,DataW.trod enc P W base spare held n t cs=some (d,p):=by
 obtain⟨cs,rfl,hl,hc,_⟩:=lift_cells hst hct hcz hv h
 refine⟨cs,rfl,hl,hc,?_⟩
 obtain⟨fuel,hf⟩:=h
 exact⟨fuel,by simpa[Value.cells]using hf⟩
theorem slice_bound{t e:TypeId}{fuel:Nat}{a:Option Addr}{len cap:Nat}{x:DataW H×List MemPlace}(hs:P.underlying t=some (.slice e))(h:DataW.trod enc P W base spare held fuel t [.slice a len cap]=some x)(hw:wOk P t x.1):len*P.bytesOf e≤reachBytes:=by
 rcases open_slice hs h with⟨hcs,_⟩|⟨a',len',cap',m,n,D,Pl,hcs,hb,hl,hm,hmm,hx,hi⟩
 ·simp only[List.cons.injEq,Value.slice.injEq,and_true]at hcs
  obtain⟨_,rfl,_⟩:=hcs
  simp
 ·simp only[List.cons.injEq,Value.slice.injEq,and_true]at hcs
  obtain⟨_,rfl,_⟩:=hcs
  rw[hx]at hw
  have:=hw ((len+(m-len))*P.bytesOf e) (by simp[DataW.weights,hs])
  exact Nat.le_trans (Nat.mul_le_mul_right _ (by omega)) this
theorem nest_bound{α:Type}{t e e2:TypeId}{sz fuel:Nat}{a:Option Addr}{len cap:Nat}{x:DataW H×List MemPlace}{ls:List α}{g:α→List (List AV)}{fl:Bool}(hs:P.underlying t=some (.slice e))(hC:P.cellsOf e=1)(hs2:P.underlying e=some (.slice e2))(h:DataW.trod enc P W base spare held fuel t [.slice a len cap]=some x)(hw:wOk P t x.1)
  (hp:PV (S0 W) W (.lst fl 1 (ls.map fun l=>[.lst false sz (g l)])) (.slice a len cap)) (l:α) (hl:l∈ls):(g l).length*P.bytesOf e2≤reachBytes:=by
 obtain⟨i,hi⟩:=List.mem_iff_getElem?.1 hl
 obtain⟨A,cp,he,hle,hmx,_,hA,hnone,_⟩:=hp
 simp only[Value.slice.injEq]at he
 obtain⟨rfl,rfl,rfl⟩:=he
 have hil:i<ls.length:=(List.getElem?_eq_some_iff.1 hi).1
 rw[length_map]at hle h
 rcases open_slice1 hs hC h with⟨hcs,_⟩|⟨a',len',cap',m,n,Vf,D,Pl,hcs,hb,hl',hm,hmm,hx,hev⟩
 ·simp only[List.cons.injEq,Value.slice.injEq,and_true]at hcs
  omega
 ·simp only[List.cons.injEq,Value.slice.injEq,and_true]at hcs
  obtain⟨rfl,rfl,rfl⟩:=hcs
  obtain⟨hsp,hpve⟩:=hA a' rfl
  have hlm:ls.length≤m:=by rw[hmm];split<;>omega
  have hg:=PVE.get _ _ i [.lst false sz (g l)] (hsp (by omega)) hpve (by rw[getElem?_map,hi];rfl)
  obtain⟨⟨c,q1,_,_,q3⟩,_⟩:=hg
  obtain⟨hc,htr⟩:=hev i (by omega)
  have hae:a'.add i=⟨a'.block,a'.off+i*1,none⟩:=by
   obtain⟨gg,off,sp⟩:=a'
   have hsp':sp=none:=hsp (by omega)
   subst hsp'
   unfold Addr.add
   split
   ·rename_i h0;simp[h0]
   ·simp
  rw[hae,q1]at hc
  have hc:=Option.some.inj hc
  obtain⟨A2,c2,e2',_⟩:=q3
  rw[←hc,e2']at htr
  refine slice_bound hs2 htr fun k hk=>hw k ?_
  rw[hx]
  simp only[DataW.weights,hs]
  exact List.mem_cons_of_mem _ (List.mem_append_left _ (mem_weightsAll _ _ (List.mem_map.2 ⟨i,List.mem_range.2 hil,rfl⟩) hk))
theorem lift_strs{t e:TypeId}{r:Reach}{b0:Nat}{v:Value}{d:DataW H}{p:List MemPlace}(hs:P.underlying t=some (.slice e))(hC:P.cellsOf e=1)(he:P.underlying e=some .string)(hv:Value.okWide P W r b0 t v)(h:DataW.Trod enc P W base spare held t v d p)(hw:wOk P t d):
  ∃ls:List (List UInt8),PV (S0 W) W (.lst false 1 (strs ls)) v∧ls.length*P.bytesOf e≤reachBytes:=by
 have hv':Cell.okWide P W r b0 t v:=by simpa only[Value.okWide,hs]using hv
 obtain⟨a,len,cap,rfl,hsp⟩:=cell_slice2 (by rw[hs]) hv'
 obtain⟨fuel,hf⟩:=h
 have hf:DataW.trod enc P W base spare held fuel t [.slice a len cap]=some (d,p):=by simpa[Value.cells]using hf
 have hb:=slice_bound hs hf hw
 rcases open_slice1 hs hC hf with⟨hcs,_⟩|⟨a',len',cap',m,n,Vf,D,Pl,hcs,hb',hl,hm,hmm,hx,hi⟩
 ·simp only[List.cons.injEq,Value.slice.injEq,and_true]at hcs
  obtain⟨rfl,rfl,rfl⟩:=hcs
  exact⟨[],⟨none,0,rfl,by simp[strs],by simp[maxLen],by simp[strs],by simp,by simp,by simp[strs]⟩,by simp⟩
 ·simp only[List.cons.injEq,Value.slice.injEq,and_true]at hcs
  obtain⟨rfl,rfl,rfl⟩:=hcs
  have hlm:len≤m:=by rw[hmm];split<;>omega
  have hspa:=hsp _ rfl
  obtain⟨g,off,sp⟩:=a'
  simp only at hspa
  subst hspa
  have key: ∀i,i<len→ ∃s:List UInt8,W.cell? ⟨g,off+i,none⟩=some (.string ⟨s.toArray⟩):=by
   intro i hil
   obtain⟨hc,htr⟩:=hi i (by omega)
   obtain⟨s,e1,_,_⟩:=DataW.trod_string he htr
   have hci:W.cell? ⟨g,off+i,none⟩=some (Vf i):=by
    unfold Addr.add at hc
    split at hc
    ·rename_i h0;rw[show off+i=off from by omega];exact hc
    ·exact hc
   refine⟨s.data.toList,?_⟩
   rw[hci,show Vf i= .string s by simpa using e1]
  classical
  refine⟨(List.range len).map fun i=>if hh:i<len then Classical.choose (key i hh)else [],⟨some ⟨g,off,none⟩,cap,by simp[strs],by simpa[strs]using hl,hm,by simp,fun ad ha=>?_,by simp,fun e he=>?_⟩,by simpa using hb⟩
  ·cases ha
   refine⟨fun _=>rfl,pve_mk _ _ fun i s hs2=>?_⟩
   have hil:i<len:=by
    rcases Nat.lt_or_ge i len with h|h
    ·exact h
    ·rw[getElem?_eq_none (by simpa using h)]at hs2;cases hs2
   rw[getElem?_map,List.getElem?_range hil]at hs2
   simp only[Option.map_some,dif_pos hil,Option.some.injEq]at hs2
   subst hs2
   have hk:=Classical.choose_spec (key i hil)
   refine⟨hk,.inl ?_⟩
   rw[hk];rfl
  ·simp only[strs,mem_map]at he
   obtain⟨_,_,rfl⟩:=he
   rfl
end
theorem laid_get{P:Program}{w:World}: ∀(l:List (String×DataW Unit)) (ps:List MemPlace) (i:Nat) (n:String) (d:DataW Unit),DataW.LaidVars P w l ps→l[i]? =some (n,d)→
  ∃g t cs fuel p,P.globalNamed n=some g∧(P.globals[g]?).map (·.type)=some t∧w.var? P n=some cs∧DataW.trod (fun _=>()) P w 0 (fun _=>true) false fuel t cs.toList=some (d,p)
 |[],_,_,_,_,_,h=>by simp at h
 |(n',d')::l,ps,0,n,d,h,he=>by
  simp only[List.getElem?_cons_zero,Option.some.injEq,Prod.mk.injEq]at he
  obtain⟨rfl,rfl⟩:=he
  obtain⟨g,t,cs,fuel,p,q,h1,h2,h3,h4,_,_⟩:=h
  exact⟨g,t,cs,fuel,p,h1,h2,h3,h4⟩
 |(n',d')::l,ps,i+1,n,d,h,he=>by
  obtain⟨g,t,cs,fuel,p,q,_,_,_,_,h5,_⟩:=h
  exact laid_get l q i n d h5 (by simpa using he)
end Go.Fl
namespace Go.Fl
open Go.RowKit
theorem HCH.onlyRow{P:Program}{f:FuncId}{args:List AV}{pre:Heap}{el:TypeId}{sz n:Nat}{es:List (List AV)}{sl:Bool}{v:AV}(hp:pureE es)(hv:v.pure=true)(h:HCH P f args [] fun r H=>r= .tup [.row pre.length n,v]∧H=pre++[.row el sz es sl]):
  HCH P f args [] fun r H=>r= .tup [.row 0 n,v]∧H=[.row el sz es sl]:=by
 refine⟨h.1,fun κ cargs hc hH hv1=>(h.2 κ cargs hc hH hv1).mono ?_⟩
 rintro e w' ⟨r,c,κ',rfl,⟨rfl,hH'⟩,rfl,k1,k2,k3⟩
 have hg:κ'.H[pre.length]? =some (.row el sz es sl):=by rw[hH',getElem?_append_right (Nat.le_refl _),Nat.sub_self];rfl
 have hlt:=(List.getElem?_eq_some_iff.1 hg).1
 have hno: ∀{b:Nat} {x:Blk},κ.H[b]? =some x→False:=fun h=>by rw[hH]at h;simp at h
 have hnown: ∀g,¬ Owned κ g:=fun g ⟨b,hb,_⟩=>by rw[hH]at hb;simp at hb
 let κ2:Cx:={ S:=κ'.S,w:=κ'.w,ρ:=fun _=>κ'.ρ pre.length,H:=[.row el sz es sl] }
 have hH2:κ2.H=[.row el sz es sl]:=rfl
 have hget: ∀{b:Nat} {x:Blk},κ2.H[b]? =some x→b=0∧x= .row el sz es sl:=fun {b x} h=>by
  rw[hH2]at h
  match b,h with
  |0,h=>simp at h;exact⟨rfl,h.symm⟩
  |b+1,h=>simp at h
 have hlen: ∀{b:Nat},b<κ2.H.length→b=0:=fun h=>by rw[hH2]at h;simpa using h
 refine⟨.tup [.row 0 n,v],c,κ2,rfl,⟨rfl,rfl⟩,rfl,⟨fun b x hb=>?_,fun b b' hb hb' _ _ _=>by rw[hlen hb,hlen hb'],fun b hb hn=>k1.lt _ hlt hn,k1.swf,k1.gl⟩,?_,?_⟩
 ·obtain⟨rfl,rfl⟩:=hget hb
  obtain⟨h1,h2,h3,h4⟩:=k1.blk _ _ hg
  refine⟨h1,h2,h3,fun hn=>?_⟩
  obtain⟨⟨cur,a1,a2,a3,a4,a5,a6⟩,d1,d2⟩:=h4 hn
  refine⟨⟨cur,a1,a2,a3,a4,?_,a6⟩,d1,d2⟩
  have hpf:AV.pureL es.flatten=true:=by
   have: ∀es:List (List AV),pureE es→AV.pureL es.flatten=true:=by
    intro es
    induction es with
    |nil=>intro _;rfl
    |cons e es ih=>
     intro h
     have app: ∀a b:List AV,AV.pureL a=true→AV.pureL b=true→AV.pureL (a++b)=true:=by
      intro a b ha hb
      induction a with
      |nil=>exact hb
      |cons x a ih=>simp only[AV.pureL,Bool.and_eq_true,cons_append]at ha ⊢;exact⟨ha.1,ih ha.2⟩
     rw[flatten_cons]
     exact app _ _ (h e (by simp)) (ih fun x hx=>h x (by simp[hx]))
   exact this es hp
  exact VL.of_pvl (κ:=κ2) _ _ (PVL.of_v (κ:=κ') _ _ hpf a5)
 ·exact { s:=k2.s,box:=fun b ty cs sl hb=>(hno hb).elim,row:=fun b el sz es sl hb=>(hno hb).elim,rg:=fun b el sz es g hb=>(hno hb).elim,os:=k2.os,tape:=k2.tape,output:=k2.output,size:=k2.size,frame:=k2.frame,snew:=k2.snew,own:=fun g ⟨b,hb,h1,h2⟩=>k2.own g ⟨pre.length,hlt,h1,h2⟩ }
 ·obtain⟨a,e,c1,cs1,e1,⟨h0,el',sz',es',sl',hb',hle,hval⟩,c2,cs2,e2,hv2,e3⟩:=k3
  rw[hg]at hb';cases hb'
  refine⟨a,e,c1,cs1,e1,⟨h0,el,sz,es,sl,rfl,hle,hval⟩,c2,cs2,e2,?_,e3⟩
  have:=VL.of_pvl (κ:=κ2) [v] [c2] (PVL.of_v (κ:=κ') [v] [c2] (by simp[AV.pureL,hv]) ⟨c2,[],rfl,hv2,rfl⟩)
  obtain⟨_,_,e,h2,_⟩:=this
  cases e;exact h2
theorem HCH.newAt{P:Program}{g:FuncId}{args:List AV}{H0:Heap}{v0:AV}(hc:HCH P g args [] fun r H'=>r=v0∧H'=H0)(ha:AV.pureL args=true)(H:Heap):HCH P g args H fun r H'=>r=shiftV H.length v0∧H'=H++H0.map (shiftB H.length):=
 (hc.pure ha H).mono (by rintro r H' ⟨r0,H0',⟨rfl,rfl⟩,rfl,rfl⟩;exact⟨rfl,rfl⟩)
theorem vcP_fnew{P:Program}{nt m:Nat}{R:Exit→St→Prop}{g:FuncId}{args args' a2:List AV}{dst:Option Nat}{rest:List COp}{k:List Iv}{env:Env}{H H0:Heap}{v0:AV}(hc:HCH P g a2 [] fun r H'=>r=v0∧H'=H0)(hf:frzL H args a2)(hs:safeV v0=true)(hs2:safeH H0)
  (h:vc P nt m R (.ops rest::k) ⟨eput env dst (shiftV H.length v0),H++H0.map (shiftB H.length)⟩):vcP P nt m R g args args' dst rest k ⟨env,H⟩:=
 vcP_raw ((hc.freeze hf (by rintro r H' ⟨rfl,rfl⟩;exact⟨hs,hs2⟩)).mono (by rintro r H' ⟨r0,H0',⟨rfl,rfl⟩,rfl,rfl⟩;exact h))
theorem HCH.nilG{P:Program}{g:FuncId}{args:List AV}{H:Heap}{Q:AV→Heap→Prop}{i:Nat}{ty:TypeId}{es:List (List AV)}{sl:Bool}(hi:H[i]? =some (.row ty 1 es sl)){j:Nat}(hj:es[j]? =some [.nilS])(el:TypeId)(sz:Nat)(hsz:0<sz)
  (h1:HCH P g args ((H++[Blk.rg el sz [] 0]).set i (.row ty 1 (es.set j [.rg H.length 0 0]) sl)) Q):HCH P g args H Q:=by
 refine⟨h1.1,fun κ cargs hc hH hvl=>?_⟩
 subst hH
 obtain⟨c1,c2⟩:=hc.nilG el sz hsz
 have hlt:=(List.getElem?_eq_some_iff.1 hi).1
 have hjl:=(List.getElem?_eq_some_iff.1 hj).1
 have hi2:(κ.H++[Blk.rg el sz [] 0])[i]? =some (.row ty 1 es sl):=by rw[getElem?_append_left hlt];exact hi
 obtain⟨b1,b2,b3,b4⟩:=hc.blk _ _ hi
 have hb2: ∀e∈es.set j [AV.rg κ.H.length 0 0],e.length=1:=fun e he=>by
  rcases List.mem_or_eq_of_mem_set he with he|rfl
  ·exact b2 e he
  ·rfl
 obtain⟨d1,d2⟩:=c1.mod (w':=κ.w) i (upd κ.ρ κ.H.length nilZ i) (.row ty 1 es sl) (.row ty 1 (es.set j [.rg κ.H.length 0 0]) sl) hi2 rfl rfl rfl (Nat.le_refl _) (fun _ _ _=>rfl) (fun _ _ _=>SameAt.refl)
  (fun hn=>⟨.inl rfl,by rw[upd_other _ _ (Nat.ne_of_lt hlt)]at hn ⊢;exact hc.lt i hlt hn⟩) ⟨rfl,rfl,by simp,fun _=>rfl⟩ (fun hk=>by
   have hρ:upd (upd κ.ρ κ.H.length nilZ) i (upd κ.ρ κ.H.length nilZ i) i=κ.ρ i:=by rw[upd_same,upd_other _ _ (Nat.ne_of_lt hlt)]
   simp only[BlkOk,hρ]
   refine⟨b1,hb2,fun hn=>⟨(b3 hn).1,by rw[(b3 hn).2];rfl⟩,fun hn=>?_⟩
   obtain⟨⟨cur,q1,q2,q3,q4,q5,q6⟩,q7,q8⟩:=b4 hn
   refine⟨⟨cur,q1,q2,by rw[length_set];exact q3,q4,?_,by rw[length_set];exact q6⟩,by rw[length_set];exact q7,q8⟩
   rw[length_set,flatten_set1 es j b2 hjl]
   have h1:=VL.mono (c2.toKeep.trans hk) _ _ q5
   refine VL.mk (by rw[length_set];exact h1.length) fun k v c hv hc=>?_
   rw[getElem?_set]at hv
   split at hv
   ·rename_i e
    subst e
    split at hv
    ·cases hv
     obtain⟨c',z1,z2⟩:=q5.get j _ (flatten_get1 es j b2 hj)
     rw[hc]at z1;cases z1
     exact V.mono hk _ _ (V.nilG z2)
    ·cases hv
   ·obtain⟨c',z1,z2⟩:=h1.get k v hv
    rw[hc]at z1;cases z1
    exact z2)
 refine(h1.2 { S:=κ.S,w:=κ.w,ρ:=upd (upd κ.ρ κ.H.length nilZ) i (upd κ.ρ κ.H.length nilZ i),H:=(κ.H++[Blk.rg el sz [] 0]).set i (.row ty 1 (es.set j [.rg κ.H.length 0 0]) sl) } cargs d1 rfl (VL.mono (c2.trans d2).toKeep _ _ hvl)).mono ?_
 rintro e w' ⟨r,c,κ',e1,q,e2,k1,k2,k3⟩
 exact⟨r,c,κ',e1,q,e2,k1,(c2.trans d2).trans k2,k3⟩
theorem HCH.nilGs{P:Program}{g:FuncId}{args:List AV}{Q:AV→Heap→Prop}{ty el:TypeId}{sz:Nat}(hsz:0<sz){k:Nat}(pre suf:Heap)(sl:Bool)
  (h:HCH P g args (pre++ .row ty 1 ((List.range k).map fun m=>[.rg (pre.length+1+suf.length+m) 0 0]) sl::(suf++(List.range k).map fun _=> .rg el sz [] 0)) Q):HCH P g args (pre++ .row ty 1 (List.replicate k [.nilS]) sl::suf) Q:=by
 have key: ∀c,c≤k→HCH P g args (pre++ .row ty 1 (((List.range c).map fun m=>[.rg (pre.length+1+suf.length+m) 0 0])++List.replicate (k-c) [.nilS]) sl::(suf++(List.range c).map fun _=> .rg el sz [] 0)) Q→HCH P g args (pre++ .row ty 1 (List.replicate k [.nilS]) sl::suf) Q:=by
  intro c
  induction c with
  |zero=>intro _ h;simpa using h
  |succ c ih=>
   intro hc h
   refine ih (by omega) (HCH.nilG (i:=pre.length) (j:=c) (by rw[getElem?_append_right (Nat.le_refl _),Nat.sub_self];rfl) ?_ el sz hsz ?_)
   ·rw[getElem?_append_right (by simp)]
    simp only[length_map,List.length_range,Nat.sub_self]
    rw[List.getElem?_replicate,if_pos (by omega)]
   ·have e:k-c=(k-(c+1))+1:=by omega
    rw[append_assoc,List.set_append_right _ _ (Nat.le_refl _),Nat.sub_self]
    simp only[cons_append,List.set_cons_zero]
    rw[e,List.replicate_succ,List.set_append_right _ _ (by simp)]
    simp only[length_map,List.length_range,Nat.sub_self,List.set_cons_zero,List.length_append,length_cons]
    rw[show pre.length+(suf.length+c+1)=pre.length+1+suf.length+c by omega]
    rw[List.range_succ,map_append,map_append]at h
    simpa using h
 exact key k (Nat.le_refl _) (by simpa using h)
theorem pvl_ints{κ:Cx}{S:Nat→Nat→Prop}{w:World}: ∀{l:List Int} {cs:List Value},VL κ (l.map encN).flatten cs→PVL S w (l.map encN).flatten cs
 |[],cs,h=>h
 |x::l,cs,h=>by
  simp only[List.map_cons,flatten_cons,encN,cons_append,List.nil_append]at h ⊢
  obtain⟨c,cs',e,h1,h2⟩:=h
  exact⟨c,cs',e,h1,pvl_ints h2⟩
theorem HCH.cloneL{P:Program}{f:FuncId}{args args':List AV}{H:Heap}{el:TypeId}{l:List Int}(h:HCH P f args' [] fun r H'=>r= .row 0 l.length∧H'=[.row el 1 (l.map encN) false])(ha:frzL H args args'):
  HCH P f args H fun r H'=>r=lN l∧H'=H:=by
 refine⟨h.1,fun κ cargs hc hH hv=>?_⟩
 subst hH
 have hc0:Conc { S:=sealed κ,w:=κ.w,ρ:=κ.ρ,H:=[] }:=⟨fun b x hb=>by simp at hb,fun b b' hb=>by simp at hb,fun b hb=>by simp at hb,fun g o hs=>hs.elim (hc.swf g o) (fun⟨b,h1,h2,h3⟩=>by rw[←h3];exact hc.lt b h1 h2),hc.gls (κ':={ S:=sealed κ,w:=κ.w,ρ:=κ.ρ,H:=[] }) fun g o hs=>⟨.inl hs,SameAt.refl⟩⟩
 refine(h.2 { S:=sealed κ,w:=κ.w,ρ:=κ.ρ,H:=[] } cargs hc0 rfl (VL.of_pvl (κ:={ S:=sealed κ,w:=κ.w,ρ:=κ.ρ,H:=[] }) _ _ (frzL_ok hc _ _ _ ha hv))).mono ?_
 rintro e w' ⟨r,c,κ2,rfl,⟨rfl,hH2⟩,rfl,k1,k2,k3⟩
 have hb:κ2.H[0]? =some (.row el 1 (l.map encN) false):=by rw[hH2];rfl
 have hp:pureE (l.map encN):=by rw[pureN];trivial
 have hlen:(l.map encN).length=l.length:=by simp
 have s1:=k1.sealRow hb hp
 have s2:=StepM.sealRow k1 hb hp k2
 have s3:Conc { sealC κ2 0 el 1 (l.map encN)with H:=(sealC κ2 0 el 1 (l.map encN)).H.take 0 }:=s1.trunc (n:=0) (by simp[belowH])
 have s4:=s2.trunc (n:=0) (Nat.zero_le _)
 obtain⟨κ',q0,q1,q2,q3,q4,_⟩:=take_overS hc s4 s3 (fun g o=>κ.S g o∨(κ.w.heap.size≤g∧(sealC κ2 0 el 1 (l.map encN)).S g o)) (fun g o hs=>⟨.inl hs,.inl hs⟩) (fun g o hs=>hs) .any c trivial (.inl ⟨rfl,by simp[safeH]⟩)
 refine⟨_,c,κ',rfl,⟨rfl,by rw[q2];simp⟩,q1,q3,q4,?_⟩
 show PV κ'.S κ'.w (lN l) c
 rw[q0,q1]
 obtain⟨_,el',sz',es',sl',hb',hle,e⟩:=k3
 rw[hb]at hb';cases hb'
 rw[e hlen]
 obtain⟨hsz,hes,hnil,hrow⟩:=k1.blk 0 _ hb
 have hbl:=(List.getElem?_eq_some_iff.1 hb).1
 cases hq:(κ2.ρ 0).isNil with
 |true=>
  obtain⟨h1,h2⟩:=hnil hq
  have h0:l=[]:=by simpa using h2
  subst h0
  exact⟨(κ2.ρ 0).adr,0,by simp[rowVal,hq,h1],by simp,by simp[maxLen],fun _=>rfl,fun ad ha=>⟨fun hne=>absurd rfl hne,trivial⟩,fun _=>rfl,by simp⟩
 |false=>
  obtain⟨⟨cur,a1,a2,a3,a4,a5,a6⟩,_⟩:=hrow hq
  have hnew:κ.w.heap.size≤(κ2.ρ 0).blk:=by
   rcases k2.own (κ2.ρ 0).blk ⟨0,hbl,hq,rfl⟩with⟨b,q1,_⟩|q1
   ·simp at q1
   ·exact q1
  refine⟨some ⟨(κ2.ρ 0).blk,0,none⟩,(κ2.ρ 0).cap,by simp[rowVal,hq],a3,a4,(fun e=>by cases e),fun ad ha=>?_,(fun e=>by cases e),hes⟩
  cases ha
  refine⟨fun _=>rfl,pve_of_cells _ _ rfl hes (pvc_of _ _ 0 (pvl_ints a5) a6 (fun j u hu=>?_))⟩
  rw[List.getElem?_take]at hu
  split at hu
  ·rename_i hj
   refine⟨?_,.inr ⟨hnew,.inr ⟨hq,rfl,by simpa using hj⟩⟩⟩
   show κ2.w.cell? _=_
   rw[Nat.zero_add,cell_of_row κ2.w _ j cur el (0,0) a1]
   simpa using hu
  ·cases hu
end Go.Fl
