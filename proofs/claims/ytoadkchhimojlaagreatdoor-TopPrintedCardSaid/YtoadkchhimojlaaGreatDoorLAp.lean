/- The given card TopPrinted is proved here, by the contract of the statement and the lifts of its arguments; no condition stands ahead of it. -/
import Derived.Test.YtoadkchhimojlaaGreatDoorLAe
import Derived.Test.YtoadkchhimojlaaGreatDoorLAb
import Derived.Test.YtoadkchhimojlaaGreatDoorFlC
import Derived.Test.YtoadkchhimojlaaGreatDoorTie
import Derived.Test.YtoadkchhimojlaaGreatDoorCards
import Derived.ProofKit
import Derived.OpenShut
import Derived.LaidMore
import Derived.Lay
import Derived.SevenTiedAt
import Derived.Stop.Joined
import Derived.Shelf.Vars
import Derived.Test.YtoadkchhimojlaaGreatDoorLAo
set_option linter.unusedSectionVars false
set_option linter.unusedSimpArgs false
set_option linter.unusedVariables false
set_option maxRecDepth 100000
open List(length_map)
open Go.Proofs.Tryz(prog)
namespace Go.Proofs.YtoadkchhimojlaaGreatDoor
open Go Go.Fl Go.ChangeShapes Go.WideShapes Go.RowKit Go.Deep Go.ChangeAt
open Classical
theorem L.own:ownKnob prog.godebug=none:=by kernel_rfl
theorem L.laid:laidOutB prog=true:=by kernel_rfl
theorem L.bool:prog.underlying 4=some .bool:=by kernel_rfl
theorem L.h32:structOk prog 32 [30,27,24,3]=true:=by kernel_rfl
theorem L.s30:sliceFlat prog 30 3=true:=by kernel_rfl
theorem L.s22:sliceFlat prog 22 3=true:=by kernel_rfl
theorem L.s23:sliceFlat prog 23 3=true:=by kernel_rfl
theorem L.n27:sliceNest prog 27 1=true:=by kernel_rfl
theorem L.t27:(match prog.underlying 27 with|some (.slice _)=>true|_=>false)=true:=by kernel_rfl
theorem L.s24:sliceFlat prog 24 1=true:=by kernel_rfl
theorem L.i3:intT prog 3=true:=by kernel_rfl
theorem L.st29:isStruct prog 29=true:=by kernel_rfl
theorem L.ct29:prog.cellTypes prog.depth 29=some [22,23,24,3,24,27]:=by kernel_rfl
theorem L.cz29:prog.cellsOf 29=6:=by kernel_rfl
theorem L.f0:fieldAt prog 29 0=some (0,26):=by kernel_rfl
theorem L.f1:fieldAt prog 29 1=some (4,24):=by kernel_rfl
theorem L.f2:fieldAt prog 29 2=some (5,27):=by kernel_rfl
theorem L.g0:fieldAt prog 26 0=some (0,22):=by kernel_rfl
theorem L.g1:fieldAt prog 26 1=some (1,23):=by kernel_rfl
theorem L.g2:fieldAt prog 26 2=some (2,24):=by kernel_rfl
theorem L.g3:fieldAt prog 26 3=some (3,3):=by kernel_rfl
theorem L.c26:prog.cellsOf 26=4:=by kernel_rfl
theorem L.c22:prog.cellsOf 22=1:=by kernel_rfl
theorem L.c23:prog.cellsOf 23=1:=by kernel_rfl
theorem L.c24:prog.cellsOf 24=1:=by kernel_rfl
theorem L.c27:prog.cellsOf 27=1:=by kernel_rfl
theorem L.c3:prog.cellsOf 3=1:=by kernel_rfl
theorem L.u24:prog.underlying 24=some (.slice 3):=by kernel_rfl
theorem L.u27:prog.underlying 27=some (.slice 24):=by kernel_rfl
theorem L.u33:prog.underlying 33=some (.slice 9):=by kernel_rfl
theorem L.u9:prog.underlying 9=some .string:=by kernel_rfl
theorem L.c9:prog.cellsOf 9=1:=by kernel_rfl
theorem L.b3:prog.bytesOf 3=8:=by kernel_rfl
theorem L.b24:prog.bytesOf 24=24:=by kernel_rfl
theorem L.b9:prog.bytesOf 9=16:=by kernel_rfl
theorem L.u285:prog.underlying 285=some (.int .u64):=by kernel_rfl
theorem L.u305:prog.underlying 305=some (.array 20 285):=by kernel_rfl
theorem L.u212:prog.underlying 212=some (.interface #[("Error",210)]):=by kernel_rfl
theorem L.u3:prog.underlying 3=some (.int .i64):=by kernel_rfl
section
variable {H:Type} {enc:TypeId×Value→H} {W:World} {base:Nat} {held:Bool} {r:Reach} {b0:Nat} {v:Value} {d:DataW H} {p:List MemPlace}
theorem moulds_of: ∀ess:List (List Int),(∀e,e∈ess→e.length=3)→ ∃ts:List W2.Mould,(ess.map fun e=>e.map iv)=ts.map W2.encD
 |[],_=>⟨[],rfl⟩
 |e::ess,h=>by
  obtain⟨ts,hts⟩:=moulds_of ess fun e he=>h e (by simp[he])
  match e,h e (by simp)with
  |[a,b,c],_=>exact⟨⟨a,b,c⟩::ts,by simp[hts,W2.encD]⟩
theorem machs_of: ∀ess:List (List Int),(∀e,e∈ess→e.length=3)→ ∃ts:List Mach,(ess.map fun e=>e.map iv)=ts.map encM
 |[],_=>⟨[],rfl⟩
 |e::ess,h=>by
  obtain⟨ts,hts⟩:=machs_of ess fun e he=>h e (by simp[he])
  match e,h e (by simp)with
  |[a,b,c],_=>exact⟨⟨a,b,c⟩::ts,by simp[hts,encM]⟩
theorem buns_of: ∀ess:List (List Int),(∀e,e∈ess→e.length=3)→ ∃ts:List Bun,(ess.map fun e=>e.map iv)=ts.map encB
 |[],_=>⟨[],rfl⟩
 |e::ess,h=>by
  obtain⟨ts,hts⟩:=buns_of ess fun e he=>h e (by simp[he])
  match e,h e (by simp)with
  |[a,b,c],_=>exact⟨⟨a,b,c⟩::ts,by simp[hts,encB]⟩
theorem ints_of: ∀ess:List (List Int),(∀e,e∈ess→e.length=1)→ ∃ts:List Int,(ess.map fun e=>e.map iv)=ts.map encN
 |[],_=>⟨[],rfl⟩
 |e::ess,h=>by
  obtain⟨ts,hts⟩:=ints_of ess fun e he=>h e (by simp[he])
  match e,h e (by simp)with
  |[a],_=>exact⟨a::ts,by simp[hts,encN]⟩
theorem rows_of: ∀esss:List (List (List Int)),(∀ess,ess∈esss→ ∀e,e∈ess→e.length=1)→ ∃ws:List (List Int),(esss.map fun ess=>[AV.lst false 1 (ess.map fun e=>e.map iv)])=ws.map W2.encW
 |[],_=>⟨[],rfl⟩
 |ess::esss,h=>by
  obtain⟨ws,hws⟩:=rows_of esss fun e he=>h e (by simp[he])
  obtain⟨w,hw⟩:=ints_of ess (h ess (by simp))
  exact⟨w::ws,by simp[hws,hw,W2.encW,lN]⟩
theorem plans_of(esss:List (List (List Int)))(h: ∀ess,ess∈esss→ ∀e,e∈ess→e.length=1): ∃ws:List (List Int),(esss.map fun ess=>[AV.lst false 1 (ess.map fun e=>e.map iv)])=ws.map encP:=by
 obtain⟨ws,hw⟩:=rows_of esss h
 exact⟨ws,hw⟩
theorem lift_shop(hv:Value.okWide prog W r b0 32 v)(h:DataW.Trod enc prog W base (fun _=>true) held 32 v d p): ∃s,V (κ0 W) (W2.hS s) v:=by
 obtain⟨cs,rfl,hl,hc⟩:=lift_struct L.h32 hv h
 match cs,hl with
 |[c0,c1,c2,c3],_=>
  obtain⟨k0,n0,y0,t0⟩:=hc 0 c0 30 rfl rfl
  obtain⟨k1,n1,y1,t1⟩:=hc 1 c1 27 rfl rfl
  obtain⟨k2,n2,y2,t2⟩:=hc 2 c2 24 rfl rfl
  obtain⟨k3,n3,y3,t3⟩:=hc 3 c3 3 rfl rfl
  obtain⟨a0,l0,m0,rfl,sp0⟩:=cell_slice L.s30 k0
  obtain⟨a1,l1,m1,rfl,sp1⟩:=cell_slice2 L.t27 k1
  obtain⟨a2,l2,m2,rfl,sp2⟩:=cell_slice L.s24 k2
  obtain⟨e0,g0,q0⟩:=lift_slice sp0 L.s30 t0
  obtain⟨e1,g1,q1⟩:=lift_nest sp1 (by decide) (fun _=>rfl) L.n27 t1
  obtain⟨e2,g2,q2⟩:=lift_slice sp2 L.s24 t2
  obtain⟨k,rfl⟩:=read_int L.i3 t3
  obtain⟨ms,hms⟩:=moulds_of e0 g0
  obtain⟨ws,hws⟩:=rows_of e1 g1
  obtain⟨wt,hwt⟩:=ints_of e2 g2
  rw[hms]at q0
  rw[hws]at q1
  rw[hwt]at q2
  exact⟨⟨ms,ws,wt,k⟩,_,rfl,_,_,rfl,q0,_,_,rfl,q1,_,_,rfl,q2,_,_,rfl,rfl,rfl⟩
theorem lift_hall(hv:Value.okWide prog W r b0 29 v)(h:DataW.Trod enc prog W base (fun _=>true) held 29 v d p)(hw:wOk prog 29 d): ∃a:Hall,V (κ0 W) (hH a) v∧a.bo.length*8≤140737488351232∧a.es.length*24≤140737488351232∧ ∀l,l∈a.es→l.length*8≤140737488351232:=by
 obtain⟨cs,rfl,hl,hc,n,hx⟩:=lift_cellsW L.st29 L.ct29 L.cz29 hv h
 match cs,hl with
 |[c0,c1,c2,c3,c4,c5],_=>
  have k0:=hc 0 c0 22 rfl rfl
  have k1:=hc 1 c1 23 rfl rfl
  have k2:=hc 2 c2 24 rfl rfl
  have k3:=hc 3 c3 3 rfl rfl
  have k4:=hc 4 c4 24 rfl rfl
  have k5:=hc 5 c5 27 rfl rfl
  obtain⟨n0,y0,t0,_⟩:=trod_fieldW L.f0 hx hw
  obtain⟨n4,y4,t4,w4⟩:=trod_fieldW L.f1 hx hw
  obtain⟨n5,y5,t5,w5⟩:=trod_fieldW L.f2 hx hw
  rw[L.c26]at t0
  rw[L.c24]at t4
  rw[L.c27]at t5
  simp only[List.drop_zero,List.take_succ_cons,List.take_zero,List.drop_succ_cons]at t0 t4 t5
  obtain⟨m0,z0,u0⟩:=trod_field L.g0 t0
  obtain⟨m1,z1,u1⟩:=trod_field L.g1 t0
  obtain⟨m2,z2,u2⟩:=trod_field L.g2 t0
  obtain⟨m3,z3,u3⟩:=trod_field L.g3 t0
  rw[L.c22]at u0
  rw[L.c23]at u1
  rw[L.c24]at u2
  rw[L.c3]at u3
  simp only[List.drop_zero,List.take_succ_cons,List.take_zero,List.drop_succ_cons]at u0 u1 u2 u3
  obtain⟨a0,l0,x0,rfl,sp0⟩:=cell_slice L.s22 k0
  obtain⟨a1,l1,x1,rfl,sp1⟩:=cell_slice L.s23 k1
  obtain⟨a2,l2,x2,rfl,sp2⟩:=cell_slice L.s24 k2
  obtain⟨a4,l4,x4,rfl,sp4⟩:=cell_slice L.s24 k4
  obtain⟨a5,l5,x5,rfl,sp5⟩:=cell_slice2 L.t27 k5
  obtain⟨e0,g0,q0⟩:=lift_slice sp0 L.s22 u0
  obtain⟨e1,g1,q1⟩:=lift_slice sp1 L.s23 u1
  obtain⟨e2,g2,q2⟩:=lift_slice sp2 L.s24 u2
  obtain⟨e4,g4,q4⟩:=lift_slice sp4 L.s24 t4
  obtain⟨e5,g5,q5⟩:=lift_nest sp5 (by decide) (fun _=>rfl) L.n27 t5
  obtain⟨k,rfl⟩:=read_int L.i3 u3
  obtain⟨ms,hms⟩:=machs_of e0 g0
  obtain⟨bs,hbs⟩:=buns_of e1 g1
  obtain⟨ts,hts⟩:=ints_of e2 g2
  obtain⟨bo,hbo⟩:=ints_of e4 g4
  obtain⟨es,hes⟩:=plans_of e5 g5
  rw[hms]at q0
  rw[hbs]at q1
  rw[hts]at q2
  rw[hbo]at q4
  rw[hes]at q5
  have b4:=slice_bound L.u24 t4 w4
  have b5:=slice_bound L.u27 t5 w5
  have b6:=nest_bound L.u27 L.c24 L.u24 t5 w5 q5
  rw[L.b3]at b4
  rw[L.b24]at b5
  obtain⟨_,_,h4,_⟩:=id q4
  obtain⟨_,_,h5,_⟩:=id q5
  simp only[Value.slice.injEq,length_map]at h4 h5
  rw[h4.2.1]at b4
  rw[h5.2.1]at b5
  refine⟨⟨⟨ms,bs,ts,k⟩,bo,es⟩,⟨_,rfl,_,_,rfl,q0,_,_,rfl,q1,_,_,rfl,q2,_,_,rfl,rfl,_,_,rfl,q4,_,_,rfl,q5,rfl⟩,b4,b5,fun l hl=>?_⟩
  have:=b6 l hl
  rw[L.b3,length_map]at this
  exact this
theorem lift_lines(hv:Value.okWide prog W r b0 33 v)(h:DataW.Trod enc prog W base (fun _=>true) held 33 v d p)(hw:wOk prog 33 d): ∃ls:List (List UInt8),V (κ0 W) (.lst false 1 (strs ls)) v∧ls.length*16≤140737488351232:=by
 obtain⟨ls,q,b⟩:=lift_strs L.u33 L.c9 L.u9 hv h hw
 rw[L.b9]at b
 exact⟨ls,q,b⟩
end
abbrev laidL:List (String×DataW Unit):=[("math/bits.deBruijn32tab",Rows.laid_math_bits_deBruijn32tab),("math/bits.deBruijn64tab",Rows.laid_math_bits_deBruijn64tab),("internal/strconv.uint64pow10",Rows.laid_internal_strconv_uint64pow10),("unicode/utf8.acceptRanges",Rows.laid_unicode_utf8_acceptRanges),("strconv.ErrRange",Rows.laid_strconv_ErrRange),("strconv.ErrSyntax",Rows.laid_strconv_ErrSyntax),("unicode/utf8.first",Rows.laid_unicode_utf8_first)]
theorem cell_end{P:Program}{w:World}{n:String}{g:Nat}{cs:Array Value}(hg:P.globalNamed n=some g)(h:w.var? P n=some cs):g<w.heap.size∧w.cell? ⟨g,cs.size,none⟩=none:=by
 refine⟨?_,by rw[World.var?_cell hg h];simp⟩
 simp only[World.var?, hg,Option.bind_some]at h
 split at h
 ·rename_i e
  exact(Array.getElem?_eq_some_iff.1 e).1
 ·cases h
def powN:List Int:=[1,10,100,1000,10000,100000,1000000,10000000,100000000,1000000000,10000000000,100000000000,1000000000000,10000000000000,100000000000000,1000000000000000,10000000000000000,100000000000000000,1000000000000000000,10000000000000000000]
theorem pow_dat:(Rows.laid_internal_strconv_uint64pow10:DataW Unit)= .agg (powN.map fun n=> .lit (.int .u64 n)):=by kernel_rfl
abbrev GlAt(W:World)(x:Nat×List AV):Prop:=PVC (S0 W) W x.2 ⟨x.1,0,none⟩∧S0 W x.1 x.2.length∧W.cell? ⟨x.1,x.2.length,none⟩=none
theorem gl_err{W:World}{n:String}{g:Nat}{nm:String}{d:DataW Unit}{i:Nat}{ps:List MemPlace}(hl:DataW.LaidVars prog W laidL ps)(hi:laidL[i]? =some (n,.iface nm d))(hn:prog.globalNamed n=some g)(ht:(prog.globals[g]?).map (·.type)=some 212)(hgt:(g,[AV.lf .ifn])∈gtab):GlAt W (g,[AV.lf .ifn]):=by
 obtain⟨g',t',cs,fuel,p,h1,h2,h3,h4⟩:=laid_get _ _ i _ _ hl hi
 obtain rfl:=Option.some.inj (hn.symm.trans h1)
 obtain rfl:=Option.some.inj (ht.symm.trans h2)
 obtain⟨_,u,v,hcs,_,_⟩:=iface_of_trod L.u212 h4
 have hsz:cs.size=1:=by rw[←Array.length_toList,hcs];rfl
 obtain⟨k1,k2⟩:=cell_end hn h3
 have hc:W.cell? ⟨g,0,none⟩=some (.iface u v):=by
  rw[World.var?_cell hn h3 0]
  have:cs.toList[0]? =some (.iface u v):=by rw[hcs];rfl
  simpa using this
 rw[hsz]at k2
 exact⟨⟨⟨_,hc,.inl (by rw[hc];rfl),rfl,⟨u,v,rfl⟩⟩,trivial⟩,.inr ⟨k1,_,hgt,rfl,rfl⟩,k2⟩
theorem gl_pow{W:World}{ps:List MemPlace}(hl:DataW.LaidVars prog W laidL ps)(hgt:(5,powN.map (AV.int .u64))∈gtab):GlAt W (5,powN.map (.int .u64)):=by
 obtain⟨g,t,cs,fuel,p,h1,h2,h3,h4⟩:=laid_get _ _ 2 _ _ hl rfl
 have hn:prog.globalNamed "internal/strconv.uint64pow10" =some 5:=by kernel_rfl
 obtain rfl:=Option.some.inj (hn.symm.trans h1)
 obtain rfl:=Option.some.inj ((show(prog.globals[5]?).map (·.type)=some 305 by kernel_rfl).symm.trans h2)
 obtain⟨xs,m,_,ex,hcl,hlx,hel⟩:=DataW.trod_array L.u305 h4
 have hsz:cs.size=20:=by rw[←Array.length_toList,hcl];kernel_rfl
 have c8:prog.cellsOf 285=1:=by kernel_rfl
 obtain⟨k1,k2⟩:=cell_end hn h3
 have e3:(xs.map (·.1))=powN.map fun n=> .lit (.int .u64 n):=by
  have:=(Prod.mk.inj ex).1
  rw[pow_dat]at this
  exact(DataW.agg.inj this).symm
 have hlen:powN.length=20:=rfl
 refine⟨pvc_of_cells powN 0 fun r hr=>?_,.inr ⟨k1,_,hgt,rfl,by simp[powN]⟩,by rw[length_map,hlen,← hsz];exact k2⟩
 rw[hlen]at hr
 have hE:=hel r hr
 rw[c8,Nat.mul_one,List.getElem?_eq_getElem (by omega)]at hE
 obtain⟨z,e1,e2,_⟩:=DataW.trod_int L.u285 hE
 have e4:(xs.map (·.1))[r]? =(powN.map fun n=>(DataW.lit (.int .u64 n):DataW Unit))[r]? :=by rw[e3]
 rw[List.getElem?_map,List.getElem?_map,List.getElem?_eq_getElem (by omega:r<xs.length),List.getElem?_eq_getElem (by omega:r<powN.length),e2]at e4
 have hz:z=powN.getD r 0:=by
  simp only[Option.map_some,Option.some.injEq,DataW.lit.injEq,Lit.int.injEq,true_and]at e4
  rw[e4,List.getD,List.getElem?_eq_getElem (by omega:r<powN.length)];rfl
 have hc:W.cell? ⟨5,0+r,none⟩=some (.int .u64 (powN.getD r 0)):=by
  rw[Nat.zero_add,World.var?_cell hn h3 r,← hz]
  have:cs.toList[r]? =some (.int .u64 z):=by
   have h0:((cs.toList.drop r).take 1)[0]? =some (.int .u64 z):=by rw[e1];rfl
   simpa using h0
  simpa using this
 exact⟨hc,by show S0 W _ _;exact .inl (by rw[hc];rfl)⟩
theorem gl_max{W:World}(h:W.ShapedOpen prog)(hgt:(0,[AV.lf (.ai .i64)])∈gtab):GlAt W (0,[AV.lf (.ai .i64)]):=by
 have h0:((begin prog (fun _ _=>0) default).world.heap[0]?).bind Obj.row? =some (#[.int .i64 0],3):=by kernel_rfl
 obtain⟨m,hm⟩:=cell_of_shapedOpen_int h (of_decide_eq_true (by kernel_rfl)) h0 rfl (by kernel_rfl) (by kernel_rfl) L.u3
 obtain⟨cs,hh,hs,_⟩:=h.1 0 _ _ (of_decide_eq_true (by kernel_rfl)) h0
 refine⟨⟨⟨_,hm,.inl (by rw[hm];rfl),rfl,⟨m,rfl⟩⟩,trivial⟩,.inr ⟨(Array.getElem?_eq_some_iff.1 hh).1,_,hgt,rfl,rfl⟩,?_⟩
 have:cs.size=1:=hs
 simp[World.cell?, hh,this]
theorem tab_gl{W:World}(hs:W.ShapedOpen prog)(h:laidMetH prog laidL W):GlOk (S0 W) W:=by
 rw[MakeChecks.laidMetH_plain _ _ _ (by kernel_rfl)]at h
 obtain⟨ps,hl,_⟩:=h
 have e:gtab=[(0,[.lf (.ai .i64)]),(1,[.lf .ifn]),(2,[.lf .ifn]),(5,powN.map (.int .u64))]:=rfl
 intro x hx
 have hx':=hx
 rw[e]at hx
 simp only[List.mem_cons,List.mem_nil_iff,or_false]at hx
 rcases hx with rfl|rfl|rfl|rfl
 ·exact gl_max hs hx'
 ·exact gl_err (i:=5) hl rfl (n:= "strconv.ErrSyntax") (by kernel_rfl) (by kernel_rfl) hx'
 ·exact gl_err (i:=4) hl rfl (n:= "strconv.ErrRange") (by kernel_rfl) (by kernel_rfl) hx'
 ·exact gl_pow hl hx'
theorem L.params3:Tryz.f3.params= #[29,32,33]:=by kernel_rfl
theorem lifted3(os:Os)(started:os.Started)(H:Type)(enc:TypeId×Value→H):
  ReturnsInHanded {} Tryz.checked os 3 .any (fun w args=>(Rows.topPrintedSpec.pre enc prog Tryz.f3 Rows.topPrintedRow.domain false w args∧laidMetH prog laidL w)∧sizedMet enc prog Tryz.f3 (OpenSpec.ofChange Rows.topPrintedSpec) false w args)
   (Rows.topPrintedSpec.post enc prog Tryz.f3 false true false false):=by
 refine law_carded2 (C:=Tryz.checked) (tb:=4) (X:=fun w _=>laidMetH prog laidL w) (fun _ _ _ hh h=>h.of_heap hh) L.own started (by kernel_rfl) Tryz.func3
  (ChangeSpec.witness_shaped (enc:=enc) (C:=Tryz.checked) (os:=os) (X:=fun w _=>laidMetH prog laidL w) false (World.laidAll prog os laidL) #[.agg #[.slice none 0 0,.slice none 0 0,.slice none 0 0,.int .i64 0,.slice none 0 0,.slice none 0 0],.agg #[.slice none 0 0,.slice none 0 0,.slice none 0 0,.int .i64 0],.slice none 0 0] 8 (World.laidAll_os _ _ _)
   (World.shaped_of_ZipB (by kernel_rfl) (by kernel_rfl)) (by kernel_rfl) (by kernel_rfl) (by kernel_rfl)
   (by rw[MakeChecks.laidMetH_plain _ _ _ (by kernel_rfl)];exact laidMet_laidAll _ (by kernel_rfl) (by kernel_rfl)))
  (by kernel_rfl) L.bool rfl rfl (fun ds hd=>?_) L.laid (by kernel_rfl) (fun W args hs h=>tab_gl hs h) ?_
 ·rw[L.params3]at hd
  match ds,hd with
  |[a,b,c],_=>rfl
 ·intro W base args ds p hval hA hw
  rw[L.params3]at hA hval hw
  obtain⟨v0,v1,v2,d0,d1,d2,p0,p1,p2,rfl,rfl,rfl,h0,h1,h2⟩:=trodAll_three hA
  obtain⟨a0,q0,b0,b1,b2⟩:=lift_hall (hval 0 29 v0 rfl rfl) h0 (fun n hn=>hw n (mem_weightsEach _ _ 0 29 d0 n rfl rfl hn))
  obtain⟨s1,q1⟩:=lift_shop (hval 1 32 v1 rfl rfl) h1
  obtain⟨l2,q2,b3⟩:=lift_lines (hval 2 33 v2 rfl rfl) h2 (fun n hn=>hw n (mem_weightsEach _ _ 2 33 d2 n rfl rfl hn))
  exact⟨_,OV.c3 a0 s1 false l2 b3 b0 b1 b2,_,_,rfl,q0,_,_,rfl,q1,_,_,rfl,q2,rfl⟩
theorem topPrintedHolds:Rows.TopPrintedSaid:=
 OpenClaim.holds_of_wide 3 Tryz.f3 rfl rfl rfl rfl rfl rfl rfl ⟨rfl,rfl,rfl,rfl,rfl⟩ rfl rfl rfl rfl rfl (by kernel_rfl) Tryz.func3 (by kernel_rfl)
  (of_decide_eq_true (by kernel_rfl)) (by unfold Func.isWrapper;first|(rw[if_pos (by decide+kernel)];kernel_rfl)|(rw[if_neg (by decide+kernel)];exact⟨rfl,rfl⟩))
  (fun os started H enc _=>lifted3 os started H enc)
theorem topPrinted:Rows.TopPrintedCardSaid:=
 Claim7.holds_tied_plain_at .later [] [.data,.data,.data,.data,.sentinel,.sentinel,.pinned] true (true, "251420cfe3cf19745eceb4a2d96de1db73e260db3357133c0ca93d55bbb5ea08") true topPrintedHolds (fun _ h=>by cases h) (by kernel_rfl) (fun _ h=>by cases h) topPrinted_row_tie rfl ⟨rfl,rfl⟩ (by kernel_rfl) rfl
  (fun f fn hf hfn=>by
   obtain rfl:f=3:=Option.some.inj ((show prog.funcNamed "flong/flongtop.TopPrinted" =some 3 by kernel_rfl).symm.trans hf) |>.symm
   obtain rfl:fn=Tryz.f3:=(Option.some.inj (Tryz.func3.symm.trans hfn)).symm
   exact⟨by kernel_rfl,fun j t ht=>by
    rw[L.params3]at ht
    have hm:t∈[29,32,33]:=by simpa using Array.mem_of_getElem? ht
    have hall:([29,32,33].all fun u=> !prog.wantsStandIn u)=true:=by kernel_rfl
    exact(show prog.wantsStandIn t=false by simpa using List.all_eq_true.1 hall t hm)⟩)
  (by kernel_rfl)
end Go.Proofs.YtoadkchhimojlaaGreatDoor
