/- A framework of general lemmas over the model (an abstract machine); no statement of the seat is proved here, and none has a condition. -/
import Derived.WalkKit
import Derived.OwnWalkIn
import Derived.OrdersIn
import Derived.LoopNIn
import Derived.LoopIn
import Derived.RangeFuncNested
import Derived.RangeFuncBound
import Derived.RangeFuncLeaves
import Derived.Maps.OwnSet
import Derived.ChangeKeysEq
import Derived.Laws.Tables
import Derived.Great.BuildSlice
import Derived.Maps.RangeRun
import Derived.Maps.Views
set_option linter.unusedSectionVars false
set_option linter.unusedSimpArgs false
set_option linter.unusedVariables false
set_option maxRecDepth 100000
open List(eq_nil_of_length_eq_zero ext_getElem? flatten_append flatten_cons getElem?_drop getElem?_eq_getElem getElem?_eq_none getElem?_map getElem?_set getElem?_take length_append length_cons length_drop length_set length_take mem_of_mem_drop mem_of_mem_take range_eq_range' size_toArray take_left' take_of_length_le take_take)
namespace Go.Fl
inductive Leaf where
  |str (l:List UInt8)
  |nilI
  |ifn
  |ai (k:IntKind)
def Leaf.ok:Leaf→Value→Prop
 | .str l,c=>c= .string ⟨l.toArray⟩
 | .nilI,c=>c= .nilIface
 | .ifn,c=> ∃t p,c= .iface t p
 | .ai k,c=> ∃n,c= .int k n
inductive AV where
 |any
 |int (k:IntKind) (n:Int)
 |bool (b:Bool)
 |nilS
 |nilP
 |nilF
 |agg (cs:List AV)
 |tup (cs:List AV)
 |lst (full:Bool) (sz:Nat) (es:List (List AV))
 |row (b n:Nat)
 |pp (cs:List AV)
 |lp (b off:Nat)
 |rp (b n i off:Nat)
  |rg (b n g:Nat)
 |fn (f:FuncId) (caps:List AV)
 |bf (f:FuncId) (fs:List AV)
 |yld (l:Nat)
 |mp (g:Nat)
  |val (c:Value)
  |pm (P:Program) (t:TypeId) (q:IntKind) (f:Int→Option Int)
  |alt (vs:List AV)
  |lf (x:Leaf)
  |ifc (t:TypeId) (cs:List AV)
abbrev AV.str(l:List UInt8):AV:= .lf (.str l)
def gtab:List (Nat×List AV):=[(0,[.lf (.ai .i64)]),(1,[.lf .ifn]),(2,[.lf .ifn]),(5,([1,10,100,1000,10000,100000,1000000,10000000,100000000,1000000000,10000000000,100000000000,1000000000000,10000000000000,100000000000000,1000000000000000,10000000000000000,100000000000000000,1000000000000000000,10000000000000000000]:List Int).map (.int .u64))]
def chainB(g:Nat):Prop:=(if g=67 then True else if g=68 then True else if g=69 then True else if g=70 then True else if g=71 then True else if g=161 then True else if g=111 then True else if g=113 then True else if g=115 then True else if g=117 then True else if g=119 then True else if g=26 then True else g=122)
instance decChain(g:Nat):Decidable (chainB g):=by unfold chainB;infer_instance
theorem chainB_eq(g:Nat):chainB g=(if g=67 then True else if g=68 then True else if g=69 then True else if g=70 then True else if g=71 then True else if g=161 then True else if g=111 then True else if g=113 then True else if g=115 then True else if g=117 then True else if g=119 then True else if g=26 then True else g=122):=rfl
attribute [go_sem] chainB_eq
def chainS(t:Nat):Prop:=(if t=27 then True else t=33)
instance decChainS(t:Nat):Decidable (chainS t):=by unfold chainS;infer_instance
theorem chainS_eq(t:Nat):chainS t=(if t=27 then True else t=33):=rfl
attribute [go_sem] chainS_eq
abbrev Env:=List (Nat×AV)
def eget:Env→Nat→AV
 |[],_=> .any
 |(k,v)::r,t=>if k=t then v else eget r t
structure Rz where
 blk:Nat
 cap:Nat
 isNil:Bool
 ad:Option Addr:=none
inductive Rk where
 |map (l:List (List Int×Int))
 |it (m since:Nat) (seen:List Nat) (last:Nat)
def mkEs:Nat→List (List Int×Int)→List MapEntry
 |_,[]=>[]
 |i,(k,n)::l=>{ key:= .agg (k.map (Value.int .i64)).toArray,val:= .int .i64 n,born:=i }::mkEs (i+1) l
def Rk.obj:Rk→Obj
 | .map l=> .map (mkEs 0 l).toArray l.length
 | .it m since seen last=> .mapIter (some m) since seen.toArray last
inductive Blk where
 |box (ty:TypeId) (cs:List AV) (sl:Bool)
 |row (el:TypeId) (sz:Nat) (es:List (List AV)) (sl:Bool)
 |rg (el:TypeId) (sz:Nat) (es:List (List AV)) (g:Nat)
  |loop (l nt:Nat) (ps:Array Tmp) (assign body:Code) (env:Env)
  |mp (P:Program) (g:Nat) (t:TypeId) (q:IntKind) (n:Nat) (f:Int→Option Int)
  |raw (g:Nat) (k:Rk)
  |lpx (l:Nat)
  |lpe (l:Nat) (c:Code)
  |gone
abbrev Heap:=List Blk
structure Cx where
 S:Nat→Nat→Prop
 w:World
 ρ:Nat→Rz
 H:Heap
def MapAt(P:Program)(w:World)(g:Nat)(t:TypeId)(q:IntKind)(n:Nat)(f:Int→Option Int):Prop:=
 ∃(k e:TypeId) (D:DataW Unit),P.underlying t=some (.map k e)∧P.underlying k=some (.int .i64)∧P.underlying e=some (.int q)∧(∀w0:World,(zeroValue e).run P w0= .ok (.int q 0) w0)∧w.ownsMap P k (plainElem P e) g n D∧
  ∀x:Int,IntKind.i64.min≤x→x≤IntKind.i64.max→Maps.has D (.int .i64 x)=(f x).isSome∧D.atKey (.int .i64 x) (.lit (.int q 0))= .lit (.int q ((f x).getD 0))
theorem MapAt.keep{P:Program}{w w':World}{g:Nat}{t:TypeId}{q:IntKind}{n:Nat}{f:Int→Option Int}(h:MapAt P w g t q n f)(hg:w'.heap[g]? =w.heap[g]?):MapAt P w' g t q n f:=by
 obtain⟨k,e,D,h1,h2,h3,hz,⟨es,clock,h4,h5⟩,h6⟩:=h
 exact⟨k,e,D,h1,h2,h3,hz,⟨es,clock,by rw[hg];exact h4,h5⟩,h6⟩
def SameAt(w w':World)(g o:Nat):Prop:=w'.cell? ⟨g,o,none⟩=w.cell? ⟨g,o,none⟩∧ ∀P t q n f,MapAt P w g t q n f→MapAt P w' g t q n f
theorem SameAt.refl{w:World}{g o:Nat}:SameAt w w g o:=⟨rfl,fun _ _ _ _ _ h=>h⟩
theorem SameAt.trans{w w' w'':World}{g o:Nat}(a:SameAt w w' g o)(b:SameAt w' w'' g o):SameAt w w'' g o:=⟨b.1.trans a.1,fun P t q n f h=>b.2 P t q n f (a.2 P t q n f h)⟩
theorem SameAt.of_block{w w':World}{g o:Nat}(h:w'.heap[g]? =w.heap[g]?):SameAt w w' g o:=⟨World.cell?_of_block h,fun _ _ _ _ _ k=>k.keep h⟩
def isCM:Obj→Bool
 | .loop _=>false
 | .deferred _=>false
 |_=>true
theorem MapAt.not{P:Program}{w:World}{g:Nat}{t:TypeId}{q:IntKind}{n:Nat}{f:Int→Option Int}{o:Obj}(h:MapAt P w g t q n f)(hg:w.heap[g]? =some o)(ho: ∀es clock,o≠ .map es clock):False:=by
 obtain⟨k,e,D,_,_,_,_,⟨es,clock,h4,_⟩,_⟩:=h
 rw[hg]at h4
 exact ho es clock (Option.some.inj h4)
section
variable (S:Nat→Nat→Prop) (w:World)
mutual
def PV:AV→Value→Prop
 | .any,_=>True
 | .int k n,c=>c= .int k n
 | .bool b,c=>c= .bool b
 | .nilS,c=>c= .slice none 0 0
 | .nilP,c=>c= .pointer none
 | .nilF,c=>c= .nilFunc
 | .agg cs,c=> ∃a:Array Value,c= .agg a∧PVL cs a.toList
 | .tup cs,c=> ∃a:Array Value,c= .tuple a∧PVL cs a.toList
 | .lst full sz es,c=> ∃A cap,c= .slice A es.length cap∧es.length≤cap∧cap≤maxLen∧(full=true→cap=es.length)∧(∀ad,A=some ad→(cap≠0→ad.spot=none)∧PVE sz es ad)∧(A=none→cap=0)∧ ∀e,e∈es→e.length=sz
 | .row _ _,_=>False
 | .pp cs,c=> ∃ad,c= .pointer (some ad)∧ad.spot=none∧PVC cs ad
 | .lp _ _,_=>False
 | .rp _ _ _ _,_=>False
 | .rg _ _ _,_=>False
 | .fn f caps,c=> ∃a:Array Value,c= .func (.func f) #[] a∧PVL caps a.toList
 | .bf f fs,c=> ∃a:Array Value,c= .func (.func f) a #[]∧PVL fs a.toList
 | .yld _,_=>False
 | .mp _,_=>False
 | .val _,_=>False
 | .pm P t q f,c=> ∃g n,c= .map (some g)∧S g 0∧MapAt P w g t q n f
 | .alt vs,c=>PVA vs c
 | .lf x,c=>x.ok c
 | .ifc t cs,c=> ∃a:Value,c= .iface t a∧PVL cs [a]
def PVA:List AV→Value→Prop
 |[],_=>False
 |v::vs,c=>PV v c∨PVA vs c
def PVL:List AV→List Value→Prop
 |[],l=>l=[]
 |v::vs,l=> ∃c cs,l=c::cs∧PV v c∧PVL vs cs
def PVC:List AV→Addr→Prop
 |[],_=>True
 |v::vs,ad=>(∃c,w.cell? ad=some c∧S ad.block ad.off∧c.oneCell'=true∧PV v c)∧PVC vs ⟨ad.block,ad.off+1,none⟩
def PVE(sz:Nat):List (List AV)→Addr→Prop
 |[],_=>True
 |e::es,ad=>PVC e ad∧PVE sz es ⟨ad.block,ad.off+sz,none⟩
end
end
def Rz.adr(r:Rz):Option Addr:=r.ad
def rowVal(r:Rz)(n:Nat):Value:= .slice (if r.isNil then r.adr else some ⟨r.blk,0,none⟩) n r.cap
section
variable (κ:Cx)
mutual
def V:AV→Value→Prop
 | .agg cs,c=> ∃a:Array Value,c= .agg a∧VL cs a.toList
 | .tup cs,c=> ∃a:Array Value,c= .tuple a∧VL cs a.toList
 | .fn f caps,c=> ∃a:Array Value,c= .func (.func f) #[] a∧VL caps a.toList
 | .bf f fs,c=> ∃a:Array Value,c= .func (.func f) a #[]∧VL fs a.toList
 | .row b n,c=>(∃A cap,c= .slice A n cap)∧ ∃el sz es sl,κ.H[b]? =some (.row el sz es sl)∧n≤es.length∧(es.length=n→c=rowVal (κ.ρ b) n)
 | .lp b off,c=> ∃ty cs sl,κ.H[b]? =some (.box ty cs sl)∧c= .pointer (some ⟨(κ.ρ b).blk,off,none⟩)
 | .rp b n i off,c=>(∃A,c= .pointer (some A))∧ ∃el sz es sl,κ.H[b]? =some (.row el sz es sl)∧n≤es.length∧(es.length=n→c= .pointer (some ⟨(κ.ρ b).blk,i*sz+off,none⟩))
 | .rg b n g,c=>(∃A cap,c= .slice A n cap)∧ ∃el sz es g',κ.H[b]? =some (.rg el sz es g')∧g≤g'∧(g'=g→n≤es.length∧c=rowVal (κ.ρ b) n)
 | .yld l,c=>c= .func (.yield l) #[] #[]
 | .mp l,c=>c= .map (some l)
 | .val c0,c=>c=c0
 | .pm P t q f,c=>PV κ.S κ.w (.pm P t q f) c
 | .alt vs,c=>PV κ.S κ.w (.alt vs) c
 | .lf x,c=>x.ok c
 | .ifc t cs,c=> ∃a:Value,c= .iface t a∧VL cs [a]
 | .any,_=>True
 | .int k n,c=>PV κ.S κ.w (.int k n) c
 | .bool b,c=>PV κ.S κ.w (.bool b) c
 | .nilS,c=>PV κ.S κ.w .nilS c
 | .nilP,c=>PV κ.S κ.w .nilP c
 | .nilF,c=>PV κ.S κ.w .nilF c
 | .lst f sz es,c=>PV κ.S κ.w (.lst f sz es) c
 | .pp cs,c=>PV κ.S κ.w (.pp cs) c
def VL:List AV→List Value→Prop
 |[],l=>l=[]
 |v::vs,l=> ∃c cs,l=c::cs∧V v c∧VL vs cs
end
end
structure Keep(κ κ':Cx):Prop where
 s: ∀g o,κ.S g o→κ'.S g o∧SameAt κ.w κ'.w g o
 box: ∀b ty cs sl,κ.H[b]? =some (.box ty cs sl)→κ'.ρ b=κ.ρ b∧ ∃cs' sl',κ'.H[b]? =some (.box ty cs' sl')
 row: ∀b el sz es sl,κ.H[b]? =some (.row el sz es sl)→ ∃es' sl',κ'.H[b]? =some (.row el sz es' sl')∧es.length≤es'.length∧(es'.length=es.length→κ'.ρ b=κ.ρ b)
 rg: ∀b el sz es g,κ.H[b]? =some (.rg el sz es g)→ ∃es' g',κ'.H[b]? =some (.rg el sz es' g')∧g≤g'∧(g'=g→es'.length=es.length∧κ'.ρ b=κ.ρ b)
section
variable {S S':Nat→Nat→Prop} {w w':World} (h: ∀g o,S g o→S' g o∧SameAt w w' g o)
include h
mutual
theorem PV.mono: ∀(v:AV) (c:Value),PV S w v c→PV S' w' v c
 | .any,_,_=>trivial
 | .int _ _,_,hv=>hv
 | .bool _,_,hv=>hv
 | .nilS,_,hv=>hv
 | .nilP,_,hv=>hv
 | .nilF,_,hv=>hv
 | .agg cs,_,⟨a,e,hl⟩=>⟨a,e,PVL.mono cs _ hl⟩
 | .tup cs,_,⟨a,e,hl⟩=>⟨a,e,PVL.mono cs _ hl⟩
 | .lst _ sz es,_,⟨A,cap,e,h1,h2,h3,h4,h5⟩=>⟨A,cap,e,h1,h2,h3,fun ad ha=>⟨(h4 ad ha).1,if h0:cap=0 then(by have h1:es=[]:=eq_nil_of_length_eq_zero (by omega);rw[h1];trivial)else PVE.mono sz es ad ((h4 ad ha).1 h0) (h4 ad ha).2⟩,h5⟩
 | .row _ _,_,hv=>hv
 | .pp cs,_,⟨ad,e,h1,h2⟩=>⟨ad,e,h1,PVC.mono cs ad h1 h2⟩
 | .lp _ _,_,hv=>hv
 | .rp _ _ _ _,_,hv=>hv
 | .rg _ _ _,_,hv=>hv
 | .fn _ caps,_,⟨a,e,hl⟩=>⟨a,e,PVL.mono caps _ hl⟩
 | .bf _ caps,_,⟨a,e,hl⟩=>⟨a,e,PVL.mono caps _ hl⟩
 | .yld _,_,hv=>hv
 | .mp _,_,hv=>hv
 | .val _,_,hv=>hv
 | .pm P t q f,_,⟨g,n,e,h1,h2⟩=>⟨g,n,e,(h g 0 h1).1,(h g 0 h1).2.2 _ _ _ _ _ h2⟩
 | .alt vs,c,hv=>PVA.mono vs c hv
 | .lf _,_,hv=>hv
 | .ifc _ cs,_,⟨a,e,hl⟩=>⟨a,e,PVL.mono cs _ hl⟩
theorem PVA.mono: ∀(vs:List AV) (c:Value),PVA S w vs c→PVA S' w' vs c
 |[],_,hv=>hv
 |v::vs,c,hv=>hv.elim (fun h=> .inl (PV.mono v c h)) (fun h=> .inr (PVA.mono vs c h))
theorem PVL.mono: ∀(vs:List AV) (l:List Value),PVL S w vs l→PVL S' w' vs l
 |[],_,hv=>hv
 |v::vs,_,⟨c,cs,e,h1,h2⟩=>⟨c,cs,e,PV.mono v c h1,PVL.mono vs cs h2⟩
theorem PVC.mono: ∀(vs:List AV) (ad:Addr),ad.spot=none→PVC S w vs ad→PVC S' w' vs ad
 |[],_,_,_=>trivial
 |v::vs,⟨g,o,none⟩,_,⟨⟨c,h1,h2,h3,h4⟩,h5⟩=>⟨⟨c,((h g o h2).2.1).trans h1,(h g o h2).1,h3,PV.mono v c h4⟩,PVC.mono vs _ rfl h5⟩
theorem PVE.mono(sz:Nat): ∀(es:List (List AV)) (ad:Addr),ad.spot=none→PVE S w sz es ad→PVE S' w' sz es ad
 |[],_,_,_=>trivial
 |e::es,ad,hs,⟨h1,h2⟩=>⟨PVC.mono e ad hs h1,PVE.mono sz es _ rfl h2⟩
end
end
section
variable {κ κ':Cx} (h:Keep κ κ')
include h
mutual
theorem V.mono: ∀(v:AV) (c:Value),V κ v c→V κ' v c
 | .any,_,_=>trivial
 | .int _ _,_,hv=>hv
 | .bool _,_,hv=>hv
 | .nilS,_,hv=>hv
 | .nilP,_,hv=>hv
 | .nilF,_,hv=>hv
 | .agg cs,_,⟨a,e,hl⟩=>⟨a,e,VL.mono cs _ hl⟩
 | .tup cs,_,⟨a,e,hl⟩=>⟨a,e,VL.mono cs _ hl⟩
 | .lst f sz es,c,hv=>PV.mono h.s (.lst f sz es) c hv
 | .row b n,c,⟨h0,el,sz,es,sl,h1,h2,h3⟩=>by
  obtain⟨es',sl',h4,h5,h6⟩:=h.row b el sz es sl h1
  refine⟨h0,el,sz,es',sl',h4,by omega,fun e=>?_⟩
  rw[h6 (by omega)]
  exact h3 (by omega)
 | .pp cs,c,hv=>PV.mono h.s (.pp cs) c hv
 | .lp b off,c,⟨ty,cs,sl,h1,h2⟩=>by
  obtain⟨h3,cs',sl',h4⟩:=h.box b ty cs sl h1
  exact⟨ty,cs',sl',h4,by rw[h3];exact h2⟩
 | .rp b n i off,c,⟨h0,el,sz,es,sl,h1,h2,h3⟩=>by
  obtain⟨es',sl',h4,h5,h6⟩:=h.row b el sz es sl h1
  refine⟨h0,el,sz,es',sl',h4,by omega,fun e=>?_⟩
  rw[h6 (by omega)]
  exact h3 (by omega)
 | .rg b n g,c,⟨h0,el,sz,es,g1,h1,h2,h3⟩=>by
  obtain⟨es',g2,h4,h5,h6⟩:=h.rg b el sz es g1 h1
  refine⟨h0,el,sz,es',g2,h4,by omega,fun e=>?_⟩
  obtain⟨e1,e2⟩:=h6 (by omega)
  obtain⟨e3,e4⟩:=h3 (by omega)
  exact⟨by omega,by rw[e2];exact e4⟩
 | .fn _ caps,_,⟨a,e,hl⟩=>⟨a,e,VL.mono caps _ hl⟩
 | .bf _ caps,_,⟨a,e,hl⟩=>⟨a,e,VL.mono caps _ hl⟩
 | .yld _,_,hv=>hv
 | .mp _,_,hv=>hv
 | .val _,_,hv=>hv
 | .pm P t q f,c,hv=>PV.mono h.s (.pm P t q f) c hv
 | .alt vs,c,hv=>PV.mono h.s (.alt vs) c hv
 | .lf _,_,hv=>hv
 | .ifc _ cs,_,⟨a,e,hl⟩=>⟨a,e,VL.mono cs _ hl⟩
theorem VL.mono: ∀(vs:List AV) (l:List Value),VL κ vs l→VL κ' vs l
 |[],_,hv=>hv
 |v::vs,_,⟨c,cs,e,h1,h2⟩=>⟨c,cs,e,V.mono v c h1,VL.mono vs cs h2⟩
end
end
def BlkOk(κ:Cx)(b:Nat):Blk→Prop
 | .box ty cs sl=>(κ.ρ b).isNil=false∧ ∃cur:Array Value,κ.w.heap[(κ.ρ b).blk]? =some (.cells cur ty (0,0))∧VL κ cs cur.toList∧(∀u∈cur.toList,u.oneCell'=true)∧
   (sl=false→ ∀o,¬ κ.S (κ.ρ b).blk o)
 | .row el sz es sl=>0<sz∧(∀e∈es,e.length=sz)∧((κ.ρ b).isNil=true→(κ.ρ b).cap=0∧es=[])∧
   ((κ.ρ b).isNil=false→(∃cur:Array Value,κ.w.heap[(κ.ρ b).blk]? =some (.cells cur el (0,0))∧cur.size=(κ.ρ b).cap*sz∧es.length≤(κ.ρ b).cap∧(κ.ρ b).cap≤maxLen∧
    VL κ es.flatten (cur.toList.take (es.length*sz))∧(∀u∈cur.toList.take (es.length*sz),u.oneCell'=true))∧
    (∀o,es.length*sz≤o→ ¬κ.S (κ.ρ b).blk o)∧(sl=false→ ∀o,¬ κ.S (κ.ρ b).blk o))
 | .rg el sz es _=>0<sz∧(∀e∈es,e.length=sz)∧((κ.ρ b).isNil=true→(κ.ρ b).cap=0∧es=[])∧
   ((κ.ρ b).isNil=false→(∃cur:Array Value,κ.w.heap[(κ.ρ b).blk]? =some (.cells cur el (0,0))∧cur.size=(κ.ρ b).cap*sz∧es.length≤(κ.ρ b).cap∧(κ.ρ b).cap≤maxLen∧
    VL κ es.flatten (cur.toList.take (es.length*sz))∧(∀u∈cur.toList.take (es.length*sz),u.oneCell'=true))∧
    ∀o,¬ κ.S (κ.ρ b).blk o)
 | .loop l nt ps assign body env=>(κ.ρ b).isNil=false∧(κ.ρ b).blk=l∧ ∃fn tmps dfr,κ.w.heap[l]? =some (.loop { state:= .ready,pending:=none,fn:=fn,tmps:=tmps,params:=ps,assign:=assign,body:=body,defers:=dfr })∧tmps.size=nt∧
   (∀t,V κ (eget env t) (tmps.getD t undef))∧ ∀o,¬ κ.S l o
 | .mp P g t q n f=>(κ.ρ b).isNil=false∧(κ.ρ b).blk=g∧MapAt P κ.w g t q n f∧ ∀o,¬ κ.S g o
 | .raw g k=>(κ.ρ b).isNil=false∧(κ.ρ b).blk=g∧κ.w.heap[g]? =some k.obj∧ ∀o,¬ κ.S g o
 | .lpx l=>(κ.ρ b).isNil=false∧(κ.ρ b).blk=l∧(∃rec:Loop,κ.w.heap[l]? =some (.loop rec)∧rec.state≠ .busy∧rec.pending=some .ret)∧ ∀o,¬ κ.S l o
 | .lpe l c=>(κ.ρ b).isNil=false∧(κ.ρ b).blk=l∧(∃rec:Loop,κ.w.heap[l]? =some (.loop rec)∧rec.state≠ .busy∧rec.pending=some c)∧ ∀o,¬ κ.S l o
 | .gone=>(κ.ρ b).isNil=true
def GlOk(S:Nat→Nat→Prop)(w:World):Prop:= ∀x,x∈gtab→PVC S w x.2 ⟨x.1,0,none⟩∧S x.1 x.2.length∧w.cell? ⟨x.1,x.2.length,none⟩=none
structure Conc(κ:Cx):Prop where
 blk: ∀b x,κ.H[b]? =some x→BlkOk κ b x
 inj: ∀b b',b<κ.H.length→b'<κ.H.length→(κ.ρ b).isNil=false→(κ.ρ b').isNil=false→(κ.ρ b).blk=(κ.ρ b').blk→b=b'
 lt: ∀b,b<κ.H.length→(κ.ρ b).isNil=false→(κ.ρ b).blk<κ.w.heap.size
 swf: ∀g o,κ.S g o→g<κ.w.heap.size
 gl:GlOk κ.S κ.w
def Owned(κ:Cx)(g:Nat):Prop:= ∃b,b<κ.H.length∧(κ.ρ b).isNil=false∧(κ.ρ b).blk=g
structure StepM(E κ:Cx):Prop extends Keep E κ where
 os:κ.w.os=E.w.os
 tape:κ.w.tape=E.w.tape
 output:κ.w.output=E.w.output
 size:E.w.heap.size≤κ.w.heap.size
 frame: ∀g,g<E.w.heap.size→ ¬Owned E g→κ.w.heap[g]? =E.w.heap[g]?
 snew: ∀g o,κ.S g o→E.S g o∨E.w.heap.size≤g∨Owned E g
 own: ∀g,Owned κ g→Owned E g∨E.w.heap.size≤g
theorem Conc.gls{κ κ':Cx}(hc:Conc κ)(h: ∀g o,κ.S g o→κ'.S g o∧SameAt κ.w κ'.w g o):GlOk κ'.S κ'.w:=fun x hx=>⟨PVC.mono h _ _ rfl (hc.gl x hx).1,(h _ _ (hc.gl x hx).2.1).1,(h _ _ (hc.gl x hx).2.1).2.1.trans (hc.gl x hx).2.2⟩
theorem Keep.refl(κ:Cx):Keep κ κ:=⟨fun _ _ h=>⟨h,.refl⟩,fun _ _ _ _ h=>⟨rfl,_,_,h⟩,fun _ _ _ _ _ h=>⟨_,_,h,Nat.le_refl _,fun _=>rfl⟩,fun _ _ _ _ _ h=>⟨_,_,h,Nat.le_refl _,fun _=>⟨rfl,rfl⟩⟩⟩
theorem Keep.trans{a b c:Cx}(h:Keep a b)(k:Keep b c):Keep a c where
 s:=fun g o hs=>⟨(k.s g o (h.s g o hs).1).1,(h.s g o hs).2.trans (k.s g o (h.s g o hs).1).2⟩
 box:=fun i ty cs sl hb=>by
  obtain⟨e1,cs1,sl1,h1⟩:=h.box i ty cs sl hb
  obtain⟨e2,cs2,sl2,h2⟩:=k.box i ty cs1 sl1 h1
  exact⟨e2.trans e1,cs2,sl2,h2⟩
 row:=fun i el sz es sl hb=>by
  obtain⟨es1,sl1,h1,l1,e1⟩:=h.row i el sz es sl hb
  obtain⟨es2,sl2,h2,l2,e2⟩:=k.row i el sz es1 sl1 h1
  exact⟨es2,sl2,h2,by omega,fun e=>(e2 (by omega)).trans (e1 (by omega))⟩
 rg:=fun i el sz es g hb=>by
  obtain⟨es1,g1,h1,l1,e1⟩:=h.rg i el sz es g hb
  obtain⟨es2,g2,h2,l2,e2⟩:=k.rg i el sz es1 g1 h1
  exact⟨es2,g2,h2,by omega,fun e=>⟨(e2 (by omega)).1.trans (e1 (by omega)).1,(e2 (by omega)).2.trans (e1 (by omega)).2⟩⟩
theorem StepM.refl(κ:Cx):StepM κ κ:={ Keep.refl κ with os:=rfl,tape:=rfl,output:=rfl,size:=Nat.le_refl _,frame:=fun _ _ _=>rfl,snew:=fun _ _ h=> .inl h,own:=fun _ h=> .inl h }
theorem StepM.trans{a b c:Cx}(h:StepM a b)(k:StepM b c):StepM a c where
 toKeep:=h.toKeep.trans k.toKeep
 os:=k.os.trans h.os
 tape:=k.tape.trans h.tape
 output:=k.output.trans h.output
 size:=Nat.le_trans h.size k.size
 frame:=fun g hg ho=>by
  have hb: ¬Owned b g:=fun hb=>(h.own g hb).elim ho (by omega)
  rw[k.frame g (Nat.lt_of_lt_of_le hg h.size) hb]
  exact h.frame g hg ho
 snew:=fun g o hs=>by
  rcases k.snew g o hs with h1|h1|h1
  ·exact h.snew g o h1
  ·exact .inr (.inl (Nat.le_trans h.size h1))
  ·exact(h.own g h1).elim (fun x=> .inr (.inr x)) (fun x=> .inr (.inl x))
 own:=fun g hg=>(k.own g hg).elim (h.own g) (fun x=> .inr (Nat.le_trans h.size x))
def upd(ρ:Nat→Rz)(b:Nat)(r:Rz):Nat→Rz:=fun i=>if i=b then r else ρ i
@[simp] theorem upd_same(ρ:Nat→Rz)(b:Nat)(r:Rz):upd ρ b r b=r:=by simp[upd]
theorem upd_other(ρ:Nat→Rz){b i:Nat}(r:Rz)(h:i≠b):upd ρ b r i=ρ i:=by simp[upd,h]
theorem VL.length{κ:Cx}: ∀{vs:List AV} {l:List Value},VL κ vs l→vs.length=l.length
 |[],_,h=>by rw[show _=_ from h];rfl
 |_::vs,_,⟨c,cs,e,_,h2⟩=>by rw[e];simp[VL.length h2]
theorem VL.get{κ:Cx}: ∀{vs:List AV} {l:List Value},VL κ vs l→ ∀(j:Nat) (v:AV),vs[j]? =some v→ ∃c,l[j]? =some c∧V κ v c
 |[],_,_,j,v,e=>by simp at e
 |u::vs,_,⟨c,cs,e,h1,h2⟩,0,v,e'=>by subst e;simp at e';subst e';exact⟨c,rfl,h1⟩
 |u::vs,_,⟨c,cs,e,h1,h2⟩,j+1,v,e'=>by subst e;simp at e' ⊢;exact VL.get h2 j v e'
theorem VL.mk{κ:Cx}: ∀{vs:List AV} {l:List Value},vs.length=l.length→(∀(j:Nat) (v:AV) (c:Value),vs[j]? =some v→l[j]? =some c→V κ v c)→VL κ vs l
 |[],l,hl,_=>by simp at hl;exact eq_nil_of_length_eq_zero hl.symm
 |v::vs,[],hl,_=>by simp at hl
 |v::vs,c::cs,hl,h=>⟨c,cs,rfl,h 0 v c rfl rfl,VL.mk (by simpa using hl) fun j v' c' hv hc=>h (j+1) v' c' (by simpa using hv) (by simpa using hc)⟩
theorem VL.append{κ:Cx}: ∀{vs us:List AV} {l m:List Value},VL κ vs l→VL κ us m→VL κ (vs++us) (l++m)
 |[],_,_,_,h,k=>by rw[show _=_ from h];exact k
 |_::vs,_,_,_,⟨c,cs,e,h1,h2⟩,k=>by rw[e];exact⟨c,_,rfl,h1,VL.append h2 k⟩
theorem VL.nil{κ:Cx}:VL κ [] []:=rfl
theorem VL.one{κ:Cx}{v:AV}{c:Value}(h:V κ v c):VL κ [v] [c]:=⟨c,[],rfl,h,rfl⟩
theorem VL.take{κ:Cx}{vs:List AV}{l:List Value}(h:VL κ vs l)(n:Nat):VL κ (vs.take n) (l.take n):=
 VL.mk (by simp[h.length]) fun j v c hv hc=>by
  rw[getElem?_take]at hv hc
  split at hv
  ·rw[if_pos (by assumption)]at hc
   obtain⟨c',hc',hv'⟩:=h.get j v hv
   rw[hc]at hc';cases hc';exact hv'
  ·cases hv
theorem VL.drop{κ:Cx}{vs:List AV}{l:List Value}(h:VL κ vs l)(n:Nat):VL κ (vs.drop n) (l.drop n):=
 VL.mk (by simp[h.length]) fun j v c hv hc=>by
  rw[getElem?_drop]at hv hc
  obtain⟨c',hc',hv'⟩:=h.get _ v hv
  rw[hc]at hc';cases hc';exact hv'
theorem VL.set{κ:Cx}{vs:List AV}{l:List Value}(h:VL κ vs l)(n:Nat){v:AV}{c:Value}(hv:V κ v c):VL κ (vs.set n v) (l.set n c):=
 VL.mk (by simp[h.length]) fun j v' c' hv' hc'=>by
  rw[getElem?_set]at hv' hc'
  by_cases e:n=j
  ·subst e
   simp only[if_true]at hv' hc'
   split at hv'
   ·rw[if_pos (by have:=h.length;omega)]at hc';cases hv';cases hc';exact hv
   ·cases hv'
  ·simp only[e,if_false]at hv' hc'
   obtain⟨c2,h2,h3⟩:=h.get j v' hv'
   rw[hc']at h2;cases h2;exact h3
end Go.Fl
namespace Go.Fl
open Go.RowKit
structure SameW(w w':World):Prop where
 heap:w'.heap=w.heap
 os:w'.os=w.os
 tape:w'.tape=w.tape
 output:w'.output=w.output
theorem SameW.cell{w w':World}(h:SameW w w')(a:Addr):w'.cell? a=w.cell? a:=by simp[World.cell?, h.heap]
theorem BlkOk.keep{κ κ':Cx}{b:Nat}{x:Blk}(hk:Keep κ κ')(hρ:κ'.ρ b=κ.ρ b)
  (hh:(κ.ρ b).isNil=false→κ'.w.heap[(κ.ρ b).blk]? =κ.w.heap[(κ.ρ b).blk]?)
  (hS:(κ.ρ b).isNil=false→ ∀o,κ'.S (κ.ρ b).blk o→κ.S (κ.ρ b).blk o) (h:BlkOk κ b x):BlkOk κ' b x:=by
 cases x with
 |box ty cs sl=>
  obtain⟨h1,cur,h2,h3,h4,h5⟩:=h
  refine⟨by rw[hρ];exact h1,cur,by rw[hρ,hh h1];exact h2,VL.mono hk cs _ h3,h4,fun e o=>?_⟩
  rw[hρ];exact fun hs=>h5 e o (hS h1 o hs)
 |row el sz es sl=>
  obtain⟨h1,h2,h3,h4⟩:=h
  refine⟨h1,h2,by rw[hρ];exact h3,?_⟩
  rw[hρ]
  intro hn
  obtain⟨⟨cur,a1,a2,a3,a4,a5,a6⟩,h5,h6⟩:=h4 hn
  exact⟨⟨cur,by rw[hh hn];exact a1,a2,a3,a4,VL.mono hk _ _ a5,a6⟩,fun o ho hs=>h5 o ho (hS hn o hs),fun e o hs=>h6 e o (hS hn o hs)⟩
 |rg el sz es g=>
  obtain⟨h1,h2,h3,h4⟩:=h
  refine⟨h1,h2,by rw[hρ];exact h3,?_⟩
  rw[hρ]
  intro hn
  obtain⟨⟨cur,a1,a2,a3,a4,a5,a6⟩,h6⟩:=h4 hn
  exact⟨⟨cur,by rw[hh hn];exact a1,a2,a3,a4,VL.mono hk _ _ a5,a6⟩,fun o hs=>h6 o (hS hn o hs)⟩
 |loop l nt ps assign body env=>
  obtain⟨h1,h2,fn,tmps,dfr,h3,h4,h5,h6⟩:=h
  refine⟨by rw[hρ];exact h1,by rw[hρ];exact h2,fn,tmps,dfr,?_,h4,fun t=>V.mono hk _ _ (h5 t),fun o hs=>h6 o ?_⟩
  ·rw[←h2,hh h1,h2];exact h3
  ·rw[←h2]at hs ⊢;exact hS h1 o hs
 |mp P g t q n f=>
  obtain⟨h1,h2,h3,h4⟩:=h
  refine⟨by rw[hρ];exact h1,by rw[hρ];exact h2,h3.keep (by rw[←h2];exact hh h1),fun o hs=>h4 o ?_⟩
  rw[←h2]at hs ⊢;exact hS h1 o hs
 |raw g k=>
  obtain⟨h1,h2,h3,h4⟩:=h
  refine⟨by rw[hρ];exact h1,by rw[hρ];exact h2,by rw[←h2,hh h1,h2];exact h3,fun o hs=>h4 o ?_⟩
  rw[←h2]at hs ⊢;exact hS h1 o hs
 |gone=>show(κ'.ρ b).isNil=true;rw[hρ];exact h
 |lpx l=>
  obtain⟨h1,h2,⟨rec,h3,h5⟩,h4⟩:=h
  refine⟨by rw[hρ];exact h1,by rw[hρ];exact h2,⟨rec,by rw[←h2,hh h1,h2];exact h3,h5⟩,fun o hs=>h4 o ?_⟩
  rw[←h2]at hs ⊢;exact hS h1 o hs
 |lpe l c=>
  obtain⟨h1,h2,⟨rec,h3,h5⟩,h4⟩:=h
  refine⟨by rw[hρ];exact h1,by rw[hρ];exact h2,⟨rec,by rw[←h2,hh h1,h2];exact h3,h5⟩,fun o hs=>h4 o ?_⟩
  rw[←h2]at hs ⊢;exact hS h1 o hs
theorem Conc.same{κ:Cx}(h:Conc κ){w':World}(hw:SameW κ.w w'):Conc { κ with w:=w' }∧StepM κ { κ with w:=w' }:=by
 have hk:Keep κ { κ with w:=w' }:=⟨fun g o hs=>⟨hs,.of_block (by rw[hw.heap])⟩,fun b ty cs sl hb=>⟨rfl,cs,sl,hb⟩,fun b el sz es sl hb=>⟨es,sl,hb,Nat.le_refl _,fun _=>rfl⟩,fun b el sz es g hb=>⟨es,g,hb,Nat.le_refl _,fun _=>⟨rfl,rfl⟩⟩⟩
 refine⟨⟨fun b x hb=>(h.blk b x hb).keep hk rfl (fun _=>by rw[hw.heap]) (fun _ _ hs=>hs),h.inj,fun b hb hn=>by simp only[hw.heap];exact h.lt b hb hn,fun g o hs=>by simp only[hw.heap];exact h.swf g o hs,h.gls hk.s⟩,?_⟩
 exact { hk with os:=hw.os,tape:=hw.tape,output:=hw.output,size:=by simp[hw.heap],frame:=fun g _ _=>by simp[hw.heap],snew:=fun g o hs=> .inl hs,own:=fun g hg=> .inl hg }
theorem Conc.push {κ : Cx} (h : Conc κ) {w' : World} (r : Rz) (x : Blk) (hos : w'.os = κ.w.os) (htape : w'.tape = κ.w.tape) (hout : w'.output = κ.w.output)
    (hsz : κ.w.heap.size ≤ w'.heap.size) (hold : ∀ g, g < κ.w.heap.size → w'.heap[g]? = κ.w.heap[g]?) (hr : r.isNil = false → κ.w.heap.size ≤ r.blk ∧ r.blk < w'.heap.size)
    (hx : Keep κ { S := κ.S, w := w', ρ := upd κ.ρ κ.H.length r, H := κ.H ++ [x] } → BlkOk { S := κ.S, w := w', ρ := upd κ.ρ κ.H.length r, H := κ.H ++ [x] } κ.H.length x) :
    Conc { S := κ.S, w := w', ρ := upd κ.ρ κ.H.length r, H := κ.H ++ [x] } ∧ StepM κ { S := κ.S, w := w', ρ := upd κ.ρ κ.H.length r, H := κ.H ++ [x] } := by
  have hcell : ∀ g o, κ.S g o → SameAt κ.w w' g o := fun g o hs => .of_block (hold g (h.swf g o hs))
  have hlt : ∀ {b : Nat} {x' : Blk}, κ.H[b]? = some x' → b < κ.H.length := fun hb => (List.getElem?_eq_some_iff.1 hb).1
  have hH : ∀ {b : Nat} {x' : Blk}, κ.H[b]? = some x' → (κ.H ++ [x])[b]? = some x' := fun hb => by rw [List.getElem?_append_left (hlt hb)]; exact hb
  have hk : Keep κ { S := κ.S, w := w', ρ := upd κ.ρ κ.H.length r, H := κ.H ++ [x] } :=
    ⟨fun g o hs => ⟨hs, hcell g o hs⟩, fun b ty cs sl hb => ⟨upd_other _ _ (Nat.ne_of_lt (hlt hb)), cs, sl, hH hb⟩,
     fun b el sz es sl hb => ⟨es, sl, hH hb, Nat.le_refl _, fun _ => upd_other _ _ (Nat.ne_of_lt (hlt hb))⟩,
     fun b el sz es g hb => ⟨es, g, hH hb, Nat.le_refl _, fun _ => ⟨rfl, upd_other _ _ (Nat.ne_of_lt (hlt hb))⟩⟩⟩
  refine ⟨⟨fun b x' hb => ?_, fun b b' hb hb' hn hn' e => ?_, fun b hb hn => ?_, fun g o hs => Nat.lt_of_lt_of_le (h.swf g o hs) hsz, h.gls hk.s⟩, ?_⟩
  · by_cases hbl : b < κ.H.length
    · have hb2 : κ.H[b]? = some x' := by simpa [List.getElem?_append_left hbl] using hb
      exact (h.blk b x' hb2).keep hk (upd_other _ _ (Nat.ne_of_lt hbl)) (fun hn => hold _ (h.lt b hbl hn)) (fun _ _ hs => hs)
    · have hbe : b = κ.H.length := by
        have := (List.getElem?_eq_some_iff.1 hb).1
        simp at this; omega
      subst hbe
      simp at hb
      subst hb
      exact hx hk
  · simp at hb hb'
    by_cases e1 : b = κ.H.length <;> by_cases e2 : b' = κ.H.length
    · omega
    · subst e1
      simp only [upd_same, upd_other κ.ρ r e2] at hn hn' e
      have := h.lt b' (by omega) hn'
      have := hr hn
      omega
    · subst e2
      simp only [upd_same, upd_other κ.ρ r e1] at hn hn' e
      have := h.lt b (by omega) hn
      have := hr hn'
      omega
    · simp only [upd_other κ.ρ r e1, upd_other κ.ρ r e2] at hn hn' e
      exact h.inj b b' (by omega) (by omega) hn hn' e
  · simp at hb
    by_cases e1 : b = κ.H.length
    · subst e1; simp only [upd_same] at hn ⊢; exact (hr hn).2
    · simp only [upd_other κ.ρ r e1] at hn ⊢; exact Nat.lt_of_lt_of_le (h.lt b (by omega) hn) hsz
  · refine { hk with os := hos, tape := htape, output := hout, size := hsz, frame := fun g hg _ => hold g hg, snew := fun g o hs => .inl hs, own := ?_ }
    rintro g ⟨b, hb, hn, e⟩
    simp at hb
    by_cases e1 : b = κ.H.length
    · subst e1; simp only [upd_same] at hn e; exact .inr (by rw [← e]; exact (hr hn).1)
    · simp only [upd_other κ.ρ r e1] at hn e; exact .inl ⟨b, by omega, hn, e⟩
theorem Conc.mod{κ:Cx}(h:Conc κ){w':World}(b:Nat)(r:Rz)(x x':Blk)(hb:κ.H[b]? =some x)(hos:w'.os=κ.w.os)(htape:w'.tape=κ.w.tape)(hout:w'.output=κ.w.output)
  (hsz:κ.w.heap.size≤w'.heap.size) (hold: ∀g,g<κ.w.heap.size→((κ.ρ b).isNil=false→g≠(κ.ρ b).blk)→w'.heap[g]? =κ.w.heap[g]?)
  (hseal: ∀g o,κ.S g o→SameAt κ.w w' g o)
  (hr:r.isNil=false→(r=κ.ρ b∨κ.w.heap.size≤r.blk)∧r.blk<w'.heap.size)
  (hkind:match x,x' with
   | .box ty _ _,.box ty' _ _=>ty=ty'∧r=κ.ρ b
   | .row el sz es _,.row el' sz' es' _=>el=el'∧sz=sz'∧es.length≤es'.length∧(es'.length=es.length→r=κ.ρ b)
   | .rg el sz _ g,.rg el' sz' _ g'=>el=el'∧sz=sz'∧g<g'
   | .mp _ g _ _ _ _,.mp _ g' _ _ _ _=>g=g'∧r=κ.ρ b
   | .raw g _,.raw g' _=>g=g'∧r=κ.ρ b
   | .loop l _ _ _ _ _,.lpx l'=>l=l'∧r=κ.ρ b
   | .loop l _ _ _ _ _,.lpe l' _=>l=l'∧r=κ.ρ b
   | .loop _ _ _ _ _ _,.gone=>r.isNil=true
   |_,_=>False)
  (hx:Keep κ { S:=κ.S,w:=w',ρ:=upd κ.ρ b r,H:=κ.H.set b x' }→BlkOk { S:=κ.S,w:=w',ρ:=upd κ.ρ b r,H:=κ.H.set b x' } b x'):
  Conc { S:=κ.S,w:=w',ρ:=upd κ.ρ b r,H:=κ.H.set b x' }∧StepM κ { S:=κ.S,w:=w',ρ:=upd κ.ρ b r,H:=κ.H.set b x' }:=by
 have hbl:b<κ.H.length:=(List.getElem?_eq_some_iff.1 hb).1
 have hother: ∀{i:Nat},i≠b→(κ.H.set b x')[i]? =κ.H[i]? :=fun hi=>by rw[List.getElem?_set_ne (by omega)]
 have hself:(κ.H.set b x')[b]? =some x':=by rw[List.getElem?_set_self hbl]
 have hk:Keep κ { S:=κ.S,w:=w',ρ:=upd κ.ρ b r,H:=κ.H.set b x' }:=by
  refine⟨fun g o hs=>⟨hs,hseal g o hs⟩,fun i ty cs sl hi=>?_,fun i el sz es sl hi=>?_,fun i el sz es g hi=>?_⟩
  ·by_cases e:i=b
   ·subst e
    rw[hb]at hi;cases hi
    cases x' with
    |box ty' cs' sl'=>obtain⟨e1,e2⟩:=hkind;subst e1;exact⟨by simp[e2],cs',sl',hself⟩
    |row=>exact hkind.elim
    |rg=>exact hkind.elim
    |loop=>exact hkind.elim
    |mp=>exact hkind.elim
    |raw=>exact hkind.elim
    |lpx=>exact hkind.elim
    |lpe=>exact hkind.elim
    |gone=>exact hkind.elim
   ·exact⟨upd_other _ _ e,cs,sl,(hother e).trans hi⟩
  ·by_cases e:i=b
   ·subst e
    rw[hb]at hi;cases hi
    cases x' with
    |box=>exact hkind.elim
    |rg=>exact hkind.elim
    |loop=>exact hkind.elim
    |mp=>exact hkind.elim
    |raw=>exact hkind.elim
    |lpx=>exact hkind.elim
    |lpe=>exact hkind.elim
    |gone=>exact hkind.elim
    |row el' sz' es' sl'=>obtain⟨e1,e2,e3,e4⟩:=hkind;subst e1;subst e2;exact⟨es',sl',hself,e3,fun hh=>by simp[e4 hh]⟩
   ·exact⟨es,sl,(hother e).trans hi,Nat.le_refl _,fun _=>upd_other _ _ e⟩
  ·by_cases e:i=b
   ·subst e
    rw[hb]at hi;cases hi
    cases x' with
    |box=>exact hkind.elim
    |row=>exact hkind.elim
    |loop=>exact hkind.elim
    |mp=>exact hkind.elim
    |raw=>exact hkind.elim
    |lpx=>exact hkind.elim
    |lpe=>exact hkind.elim
    |gone=>exact hkind.elim
    |rg el' sz' es' g'=>obtain⟨e1,e2,e3⟩:=hkind;subst e1;subst e2;exact⟨es',g',hself,by omega,fun hh=>by omega⟩
   ·exact⟨es,g,(hother e).trans hi,Nat.le_refl _,fun _=>⟨rfl,upd_other _ _ e⟩⟩
 refine⟨⟨fun i y hi=>?_,fun i j hi hj hn hn' e=>?_,fun i hi hn=>?_,fun g o hs=>Nat.lt_of_lt_of_le (h.swf g o hs) hsz,h.gls hk.s⟩,?_⟩
 ·by_cases e:i=b
  ·subst e
   rw[show({ S:=κ.S,w:=w',ρ:=upd κ.ρ i r,H:=κ.H.set i x' }:Cx).H[i]? =some x' from hself]at hi
   cases hi
   exact hx hk
  ·have hi2:κ.H[i]? =some y:=(hother e).symm.trans hi
   have hil:=(List.getElem?_eq_some_iff.1 hi2).1
   exact(h.blk i y hi2).keep hk (upd_other _ _ e) (fun hn=>hold _ (h.lt i hil hn) (fun hnb he=>e (h.inj i b hil hbl hn hnb he))) (fun _ _ hs=>hs)
 ·simp at hi hj
  by_cases e1:i=b<;>by_cases e2:j=b
  ·omega
  ·subst e1
   simp only[upd_same,upd_other κ.ρ r e2]at hn hn' e
   rcases(hr hn).1 with hh|hh
   ·subst hh;exact h.inj i j hi hj hn hn' e
   ·have:=h.lt j hj hn';omega
  ·subst e2
   simp only[upd_same,upd_other κ.ρ r e1]at hn hn' e
   rcases(hr hn').1 with hh|hh
   ·subst hh;exact h.inj i j hi hj hn hn' e
   ·have:=h.lt i hi hn;omega
  ·simp only[upd_other κ.ρ r e1,upd_other κ.ρ r e2]at hn hn' e
   exact h.inj i j hi hj hn hn' e
 ·simp at hi
  by_cases e1:i=b
  ·subst e1;simp only[upd_same]at hn ⊢;exact(hr hn).2
  ·simp only[upd_other κ.ρ r e1]at hn ⊢;exact Nat.lt_of_lt_of_le (h.lt i hi hn) hsz
 ·refine { hk with os:=hos,tape:=htape,output:=hout,size:=hsz,frame:=fun g hg ho=>hold g hg (fun hn he=>ho ⟨b,hbl,hn,he.symm⟩),snew:=fun g o hs=> .inl hs,own:=?_ }
  rintro g ⟨i,hi,hn,e⟩
  simp at hi
  by_cases e1:i=b
  ·subst e1
   simp only[upd_same]at hn e
   rcases(hr hn).1 with hh|hh
   ·subst hh;exact .inl ⟨i,hi,hn,e⟩
   ·exact .inr (by rw[←e];exact hh)
  ·simp only[upd_other κ.ρ r e1]at hn e;exact .inl ⟨i,hi,hn,e⟩
def eput(env:Env)(d:Option Nat)(v:AV):Env:=match d with|some d=>(d,v)::env|none=>env
structure St where
 env:Env
 H:Heap
mutual
def AV.pure:AV→Bool
 | .agg cs=>AV.pureL cs
 | .tup cs=>AV.pureL cs
 | .fn _ cs=>AV.pureL cs
 | .bf _ cs=>AV.pureL cs
 | .row _ _=>false
 | .lp _ _=>false
 | .rp _ _ _ _=>false
 | .rg _ _ _=>false
 | .yld _=>false
 | .mp _=>false
 | .val _=>false
 | .pm _ _ _ _=>true
 | .alt _=>true
 | .lf _=>true
 | .ifc _ cs=>AV.pureL cs
 | .any=>true
 | .int _ _=>true
 | .bool _=>true
 | .nilS=>true
 | .nilP=>true
 | .nilF=>true
 | .lst _ _ _=>true
 | .pp _=>true
def AV.pureL:List AV→Bool
 |[]=>true
 |v::vs=>v.pure&&AV.pureL vs
end
def chunks(sz:Nat):Nat→List AV→List (List AV)
 |0,_=>[]
 |n+1,cs=>cs.take sz::chunks sz n (cs.drop sz)
def AV.oneA:AV→Bool
 | .val (.map none)=>true
 | .any| .agg _| .tup _| .val _| .alt _=>false
 |_=>true
def cellsA:AV→Option (List AV)
 | .agg cs=>if cs.all AV.oneA then some cs else none
 |v=>if v.oneA then some [v]else none
def abs1:Value→AV
 | .int k n=> .int k n
 | .bool b=> .bool b
 | .slice none 0 0=> .nilS
 | .pointer none=> .nilP
 | .nilFunc=> .nilF
 | .map none=> .val (.map none)
 | .string b=> .lf (.str b.data.toList)
 | .nilIface=> .lf .nilI
 |_=> .any
def absV:Value→AV
 | .agg cs=> .agg (cs.toList.map abs1)
 |v=>abs1 v
def gfind:List (Nat×List AV)→Nat→AV
 |[],_=> .any
 |(n,l)::r,g=>if n=g then .pp l else gfind r g
def gav(g:Nat):AV:=gfind gtab g
theorem gfind_ok{κ:Cx}: ∀(l:List (Nat×List AV)) (g:Nat),(∀x,x∈l→PVC κ.S κ.w x.2 ⟨x.1,0,none⟩)→V κ (gfind l g) (.pointer (some ⟨g,0,none⟩))
 |[],_,_=>trivial
 |(n,l)::r,g,h=>by
  unfold gfind
  split
  ·rename_i e
   subst e
   exact⟨_,rfl,rfl,h (n,l) (by simp)⟩
  ·exact gfind_ok r g fun x hx=>h x (by simp[hx])
theorem gfind_bool{t:Bool}: ∀(l:List (Nat×List AV)) (g:Nat),gfind l g≠ .bool t
 |[],_,h=>by cases h
 |(n,l)::r,g,h=>by
  unfold gfind at h
  split at h
  ·cases h
  ·exact gfind_bool r g h
theorem gav_ok{κ:Cx}(hc:Conc κ)(g:Nat):V κ (gav g) (.pointer (some ⟨g,0,none⟩)):=gfind_ok _ g fun x hx=>(hc.gl x hx).1
def evA(env:Env):Operand→AV
 | .tmp t=>eget env t
 | .const v=>absV v
 | .global g=>gav g
 | .func f=> .fn f []
section
variable (P:Program)
def szT(t:TypeId):Option Nat:=(P.info? t).map (·.size)
def byT(t:TypeId):Option Nat:=(P.info? t).map (·.bytes)
def aggT(t:TypeId):Option Bool:=(P.underlying t).map fun d=>match d with| .struct _| .array _ _=>true|_=>false
def fldT(s:TypeId)(f:Nat):Option (Nat×TypeId):=
 match P.underlying s with
 |some (.struct fs)=>match fs[f]? with
  |some fd=>match szT P fd.type with|some (_+1)=>some (fd.offset,fd.type)|_=>none
  |none=>none
 |_=>none
def ikT(t:TypeId):Option IntKind:=match P.underlying t with|some (.int k)=>some k|_=>none
def elT(t:TypeId):Option (TypeId×Nat):=
 match P.underlying t with
 |some (.slice e)=>(szT P e).map fun n=>(e,n)
 |_=>none
def arT(t:TypeId):Option (Nat×TypeId×Nat):=
 match P.underlying t with
 |some (.array n e)=>(szT P e).map fun s=>(n,e,s)
 |_=>none
def zeroT(t:TypeId):Option (List AV):=
 match(P.info? t).bind (·.zero)with
 |some z=>some (z.cells.toList.map abs1)
 |none=>none
def plT(t:TypeId):Option (Option (List (Nat×Nat))):=
 match P.underlying t with
 |some (.struct fields)=>(fields.toList.mapM fun f=>(P.info? f.type).map fun i=>(f.offset,i.size)).map some
 |some (.array _ _)=>some none
 |_=>none
def ldC(t:TypeId)(cs:List AV):Option AV:=
 match aggT P t,szT P t with
 |some true,some n=>if n≤cs.length then some (.agg (cs.take n))else none
 |some false,_=>cs.head?
 |_,_=>none
def setL(cs:List AV)(off:Nat)(vs:List AV):List AV:=cs.take off++vs++cs.drop (off+vs.length)
def I64(n:Int):Prop:= -9223372036854775808≤n∧n≤9223372036854775807
inductive Res where
 |ok (p:Prop) (v:AV) (H:Heap)
 |bad
def cmpA(op:BinOp)(x y:Int):Option Bool:=
 match op with
 | .eql=>some (decide (x=y))
 | .neq=>some (!decide (x=y))
 | .lss=>some (decide (x<y))
 | .leq=>some (decide (x≤y))
 | .gtr=>some (decide (y<x))
 | .geq=>some (decide (y≤x))
 |_=>none
def arA(op:BinOp)(x y:Int):Option (Prop×Int):=
 match op with
 | .add=>some (I64 (x+y),x+y)
 | .sub=>some (I64 (x-y),x-y)
 | .mul=>some (I64 (x*y),x*y)
 | .quo=>some (0≤x∧0<y∧I64 x,x / y)
 | .rem=>some (0≤x∧0<y,x % y)
 | .shl=>some (0≤y∧y≤62∧I64 (x*2^y.toNat),x*2^y.toNat)
 | .shr=>some (0≤y∧y≤62,x / 2^y.toNat)
 | .and=>some (0≤x∧0≤y∧I64 x∧I64 y,((x.toNat &&& y.toNat:Nat):Int))
 | .or=>some (0≤x∧0≤y∧I64 x∧I64 y,((x.toNat ||| y.toNat:Nat):Int))
 | .andNot=>some (0≤x∧0≤y∧I64 x∧I64 y,((x.toNat &&& (18446744073709551615-y.toNat):Nat):Int))
 |_=>none
def U64(n:Int):Prop:=0≤n∧n<18446744073709551616
def shU(op:BinOp)(x y:Int):Option (Prop×Int):=
 match op with
 | .shl=>some (0≤x∧0≤y∧y≤63∧U64 (x*2^y.toNat),x*2^y.toNat)
 | .shr=>some (0≤x∧0≤y∧y≤64,x / 2^y.toNat)
 |_=>none
def arU(op:BinOp)(x y:Int):Option (Prop×Int):=
 match op with
 | .add=>some (U64 (x+y),x+y)
 | .sub=>some (U64 (x-y),x-y)
 | .mul=>some (U64 (x*y),x*y)
 | .and=>some (U64 x∧U64 y,((x.toNat &&& y.toNat:Nat):Int))
 | .or=>some (U64 x∧U64 y,((x.toNat ||| y.toNat:Nat):Int))
 | .andNot=>some (U64 x∧U64 y,((x.toNat &&& (18446744073709551615-y.toNat):Nat):Int))
 |op=>shU op x y
def idxI:AV→Option Int
 | .int .i64 n=>some n
 | .int .u64 n=>some n
 |_=>none
def binA(op:BinOp)(x y:AV):Option (Prop×AV):=
 match x,y with
 | .int .i64 a,.int .i64 b=>
  match cmpA op a b with
  |some r=>some (True,.bool r)
  |none=>match arA op a b with
   |some (p,n)=>some (p,.int .i64 n)
   |none=>none
 | .int .u64 a,.int .u64 b=>
  match cmpA op a b with
  |some r=>some (True,.bool r)
  |none=>match arU op a b with
   |some (p,n)=>some (p,.int .u64 n)
   |none=>none
 | .int .u64 a,.int .i64 b=>match shU op a b with
   |some (p,n)=>some (p,.int .u64 n)
   |none=>none
 | .int .u8 a,.int .u8 b=>
  match cmpA op a b with
  |some r=>some (True,.bool r)
  |none=>match op with
   | .sub=>some (0≤a-b∧a-b<256,.int .u8 (a-b))
   |_=>none
 | .lf (.str a),.lf (.str b)=>match op with
  | .add=>some (((a.length+b.length:Nat):Int)≤9223372036854775807,.lf (.str (a++b)))
  | .eql=>some (True,.bool (decide (a=b)))
  | .neq=>some (True,.bool (!decide (a=b)))
  |_=>none
 |_,_=>none
def boxCells(H:Heap)(b:Nat):Option (List AV):=match H[b]? with|some (.box _ cs _)=>some cs|_=>none
def rowEls(H:Heap)(b:Nat):List (List AV):=match H[b]? with|some (.row _ _ es _)=>es|_=>[]
def intA:AV→Option Int
 | .int .i64 n=>some n
 |_=>none
def intO(env:Env)(d:Int):Option Operand→Option Int
 |none=>some d
 |some x=>intA (evA env x)
def intOO(env:Env):Option Operand→Option (Option Int)
 |none=>some none
 |some x=>(intA (evA env x)).map some
def ofO(p:Prop)(H:Heap):Option AV→Res
 |some v=> .ok p v H
 |none=> .bad
def ldA(H:Heap)(t:TypeId):AV→Res
 | .pp cs=>ofO True H (ldC P t cs)
 | .lp b off=>match H[b]? with
  |some (.box _ cs _)=>ofO True H (ldC P t (cs.drop off))
  |_=> .bad
 | .rp b n i off=>match H[b]? with
  |some (.row _ _ es _)=>ofO (es.length=n∧i<n) H (ldC P t ((es.getD i []).drop off))
  |_=> .bad
 |_=> .bad
def stA(H:Heap)(t:TypeId)(a x:AV):Res:=
 match cellsA x,szT P t with
 |some vs,some n=>
  if vs.length=n then
   match a with
   | .lp b off=>match H[b]? with
    |some (.box ty cs false)=> .ok (off+n≤cs.length) .any (H.set b (.box ty (setL cs off vs) false))
    |_=> .bad
   | .rp b n' i off=>match H[b]? with
    |some (.row el sz es false)=> .ok (es.length=n'∧i<n'∧off+n≤sz) .any (H.set b (.row el sz (es.set i (setL (es.getD i []) off vs)) false))
    |_=> .bad
   |_=> .bad
  else .bad
 |_,_=> .bad
def idxA(H:Heap)(t:TypeId)(x:AV)(j:Int):Res:=
 match elT P t with
 |some (_,sz)=>match x with
  | .lst _ sz' es=>if sz=sz' then .ok (0≤j∧j<es.length) (.pp (es.getD j.toNat [])) H else .bad
  | .row b n=>match H[b]? with
   |some (.row _ sz' es _)=>if sz=sz' then .ok (es.length=n∧0≤j∧j<n) (.rp b n j.toNat 0) H else .bad
   |_=> .bad
  |_=> .bad
 |none=>match arT P t with
  |some (n,_,sz)=>match x with
   | .pp cs=> .ok (0≤j∧j<n) (.pp (cs.drop (j.toNat*sz))) H
   | .lp b off=>match H[b]? with
    |some (.box _ _ _)=> .ok (0≤j∧j<n) (.lp b (off+j.toNat*sz)) H
    |_=> .bad
   |_=> .bad
  |none=> .bad
def fillA(off:Nat→Option (Nat×Nat))(cs:List AV):List (Nat×AV)→Option (List AV)
 |[]=>some cs
 |(i,v)::r=>match off i,cellsA v with
  |some (o,n),some vs=>if vs.length=n∧o+n≤cs.length then fillA off (setL cs o vs) r else none
  |_,_=>none
def sliA(H:Heap)(sz:Nat)(x:AV)(lo:Int)(hi mx:Option Int):Res:=
 match x,hi,mx with
 | .lst f sz' es,none,none=>if sz'=sz then .ok (0≤lo∧lo≤es.length) (.lst f sz (es.drop lo.toNat)) H else .bad
 | .lst _ sz' es,some h,none=>if sz'=sz then .ok (0≤lo∧lo≤h∧h≤es.length) (.lst false sz ((es.take h.toNat).drop lo.toNat)) H else .bad
 | .lst _ sz' es,some h,some m=>if sz'=sz then .ok (0≤lo∧lo≤h∧h≤m∧m≤es.length) (.lst (decide (h=m)) sz ((es.take h.toNat).drop lo.toNat)) H else .bad
 | .rg b n g,some h,none=>match H[b]? with
  |some (.rg el sz' es g')=>if sz'=sz then .ok (g'=g∧lo=0∧0≤h∧h≤n) (.rg b h.toNat g) H else .bad
  |_=> .bad
 |_,_,_=> .bad
def srcA(H:Heap):AV→Option (Prop×List (List AV))
 | .nilS=>some (True,[])
 | .lst _ _ es=>some (True,es)
 | .row b n=>match H[b]? with
  |some (.row _ _ es _)=>some (es.length=n,es)
  |_=>none
 |_=>none
def okSz(sz:Nat):AV→Bool
 | .lst _ sz' _=>sz == sz'
 |_=>true
def okRow(H:Heap)(sz:Nat):AV→Bool
 | .row b _=>match H[b]? with
  |some (.row _ sz' _ _)=>sz == sz'
  |_=>false
 |_=>true
def appA(H:Heap)(t:TypeId)(s x:AV):Res:=
 match elT P t with
 |some (el,sz+1)=>match byT P el,(zeroT P el).map List.length,srcA H x with
  |some by_,some zl,some (q,ys)=>if zl=sz+1∧okSz (sz+1) x=true∧okRow H (sz+1) x=true then match s with
   | .nilS=> .ok (q∧ys.length*by_≤140737488355328∧ys.length≤maxLen) (.row H.length ys.length) (H++[.row el (sz+1) ys false])
   | .lst true sz' xs=>if sz'=sz+1 then .ok (q∧(xs.length+ys.length)*by_≤140737488355328∧xs.length+ys.length≤maxLen∧(xs=[]∨ys≠[])) (.row H.length (xs.length+ys.length)) (H++[.row el (sz+1) (xs++ys) false])else .bad
   | .row b n=>match H[b]? with
    |some (.row el' sz' xs sl)=>if sz'=sz+1∧el'=el then .ok (q∧xs.length=n∧(n+ys.length)*by_≤140737488355328∧n+ys.length≤maxLen) (.row b (n+ys.length)) (H.set b (.row el (sz+1) (xs++ys) sl))else .bad
    |_=> .bad
   | .rg b n g=>match H[b]? with
    |some (.rg el' sz' xs g')=>if sz'=sz+1∧el'=el then .ok (q∧g'=g∧(n+ys.length)*by_≤140737488355328∧n+ys.length≤maxLen∧ys≠[]) (.rg b (n+ys.length) (g+1)) (H.set b (.rg el (sz+1) (xs.take n++ys) (g+1)))else .bad
    |_=> .bad
   |_=> .bad
   else .bad
  |_,_,_=> .bad
 |_=> .bad
def lenA:AV→Option Int
 | .nilS=>some 0
 | .lst _ _ es=>some es.length
 | .row _ n=>some n
 | .rg _ n _=>some n
 |_=>none
def flatI0(t:TypeId):Bool:=
 match P.underlying t with
 |some (.struct fs)=> !P.stoodInHeld t&& !P.eqGuardType P.depth t&&fs.toList.zipIdx.all fun(f,i)=>f.name != "_" &&f.offset == i&&aggT P f.type == some false&&(match P.underlying f.type with|some (.int .i64)=>true|_=>false)
 |_=>false
def flatN0(t:TypeId):Nat:=match P.underlying t with|some (.struct fs)=>fs.size|_=>0
def flatF:Nat→List Field→Bool
 |_,[]=>true
 |pos,f::fs=>f.name != "_" &&f.offset == pos&&(match aggT P f.type with
  |some false=>(match P.underlying f.type with|some (.int .i64)=>true|_=>false)&&flatF (pos+1) fs
  |some true=>flatI0 P f.type&&szT P f.type == some (flatN0 P f.type)&&flatF (pos+flatN0 P f.type) fs
  |none=>false)
def flatI(t:TypeId):Bool:=
 match P.underlying t with
 |some (.struct fs)=> !P.stoodInHeld t&& !P.eqGuardType P.depth t&&flatF P 0 fs.toList
 |_=>false
def flatC:List Field→Nat
 |[]=>0
 |f::fs=>(match aggT P f.type with|some true=>flatN0 P f.type|_=>1)+flatC fs
def flatN(t:TypeId):Nat:=match P.underlying t with|some (.struct fs)=>flatC P fs.toList|_=>0
def arrI0(t:TypeId):Bool:=
 match P.underlying t with
 |some (.array _ e)=>aggT P e == some false&&szT P e == some 1&&(match P.underlying e with|some (.int .i64)=>true|_=>false)
 |_=>false
def arrN0(t:TypeId):Nat:=match P.underlying t with|some (.array n _)=>n|_=>0
def arrI(t:TypeId):Bool:=
 match P.underlying t with
 |some (.array _ e)=> !P.eqGuardType P.depth t&&aggT P e == some true&&szT P e == some (arrN0 P e)&&arrI0 P e
 |_=>false
def arrN(t:TypeId):Nat:=match P.underlying t with|some (.array n e)=>n*arrN0 P e|_=>0
def eqL:List AV→List AV→Option Bool
 |[],[]=>some true
 | .int .i64 a::cs,.int .i64 b::ds=>(eqL cs ds).map fun r=>decide (a=b)&&r
 |_,_=>none
def boolT(t:TypeId):Bool:=match P.underlying t with|some .bool=>true|_=>false
def funcT(t:TypeId):Bool:=match P.underlying t with|some (.func _ _ _)=>true|_=>false
def aggEq(H:Heap)(op:BinOp)(t:TypeId)(x y:AV):Res:=
 match op,x,y with
 | .eql,.agg cs,.agg ds=>if flatI P t=true∧cs.length=flatN P t∨arrI P t=true∧cs.length=arrN P t then ofO True H ((eqL cs ds).map AV.bool)else .bad
 | .neq,.agg cs,.agg ds=>if flatI P t=true∧cs.length=flatN P t∨arrI P t=true∧cs.length=arrN P t then ofO True H ((eqL cs ds).map fun b=>AV.bool (!b))else .bad
 | .eql,.bool a,.bool b=>if boolT P t=true then .ok True (.bool (a == b)) H else .bad
 | .neq,.bool a,.bool b=>if boolT P t=true then .ok True (.bool (!(a == b))) H else .bad
 | .eql,.fn _ _,.nilF=>if funcT P t=true then .ok True (.bool false) H else .bad
 | .neq,.fn _ _,.nilF=>if funcT P t=true then .ok True (.bool true) H else .bad
 | .eql,.nilF,.nilF=>if funcT P t=true then .ok True (.bool true) H else .bad
 | .neq,.nilF,.nilF=>if funcT P t=true then .ok True (.bool false) H else .bad
 |_,_,_=> .bad
def findM:Heap→Nat→Option (Nat×Program×TypeId×IntKind×Nat×(Int→Option Int))
 |[],_=>none
 | .mp P g' t q n f::H,g=>if g'=g then some (0,P,t,q,n,f)else(findM H g).map fun r=>(r.1+1,r.2)
 | .box _ _ _::H,g=>(findM H g).map fun r=>(r.1+1,r.2)
 | .raw _ _::H,g=>(findM H g).map fun r=>(r.1+1,r.2)
 | .row _ _ _ _::H,g=>(findM H g).map fun r=>(r.1+1,r.2)
 | .rg _ _ _ _::H,g=>(findM H g).map fun r=>(r.1+1,r.2)
 | .loop _ _ _ _ _ _::H,g=>(findM H g).map fun r=>(r.1+1,r.2)
 | .lpx _::H,g=>(findM H g).map fun r=>(r.1+1,r.2)
 | .lpe _ _::H,g=>(findM H g).map fun r=>(r.1+1,r.2)
 | .gone::H,g=>(findM H g).map fun r=>(r.1+1,r.2)
theorem findM_ok: ∀{H:Heap} {g b:Nat} {P:Program} {t:TypeId} {q:IntKind} {n:Nat} {f:Int→Option Int},findM H g=some (b,P,t,q,n,f)→H[b]? =some (.mp P g t q n f)
 |[],g,b,P,t,q,n,f,h=>by simp[findM]at h
 |x::H,g,b,P,t,q,n,f,h=>by
  have step:(findM H g).map (fun r=>(r.1+1,r.2))=some (b,P,t,q,n,f)→(x::H)[b]? =some (.mp P g t q n f):=fun h=>by
   obtain⟨⟨b',r⟩,h1,h2⟩:=Option.map_eq_some_iff.1 h
   simp only[Prod.mk.injEq]at h2
   obtain⟨rfl,rfl⟩:=h2
   rw[List.getElem?_cons_succ]
   exact findM_ok h1
  cases x with
  |mp P' g' t' q' n' f'=>
   simp only[findM]at h
   split at h
   ·rename_i e
    simp only[Option.some.injEq,Prod.mk.injEq]at h
    obtain⟨rfl,rfl,rfl,rfl,rfl,rfl⟩:=h
    subst e;rfl
   ·exact step h
  |_=>simp only[findM]at h;exact step h
def intsA:List AV→Option (List Int)
 |[]=>some []
 | .int .i64 a::cs=>(intsA cs).map fun r=>a::r
 |_=>none
def findR:Heap→Nat→Option (Nat×Rk)
 |[],_=>none
 | .raw g' k::H,g=>if g'=g then some (0,k)else(findR H g).map fun r=>(r.1+1,r.2)
 | .mp _ _ _ _ _ _::H,g=>(findR H g).map fun r=>(r.1+1,r.2)
 | .box _ _ _::H,g=>(findR H g).map fun r=>(r.1+1,r.2)
 | .row _ _ _ _::H,g=>(findR H g).map fun r=>(r.1+1,r.2)
 | .rg _ _ _ _::H,g=>(findR H g).map fun r=>(r.1+1,r.2)
 | .loop _ _ _ _ _ _::H,g=>(findR H g).map fun r=>(r.1+1,r.2)
 | .lpx _::H,g=>(findR H g).map fun r=>(r.1+1,r.2)
 | .lpe _ _::H,g=>(findR H g).map fun r=>(r.1+1,r.2)
 | .gone::H,g=>(findR H g).map fun r=>(r.1+1,r.2)
theorem findR_ok: ∀{H:Heap} {g b:Nat} {k:Rk},findR H g=some (b,k)→H[b]? =some (.raw g k)
 |[],g,b,k,h=>by simp[findR]at h
 |x::H,g,b,k,h=>by
  have step:(findR H g).map (fun r=>(r.1+1,r.2))=some (b,k)→(x::H)[b]? =some (.raw g k):=fun h=>by
   obtain⟨⟨b',r⟩,h1,h2⟩:=Option.map_eq_some_iff.1 h
   simp only[Prod.mk.injEq]at h2
   obtain⟨rfl,rfl⟩:=h2
   rw[List.getElem?_cons_succ]
   exact findR_ok h1
  cases x with
  |raw g' k'=>
   simp only[findR]at h
   split at h
   ·rename_i e
    simp only[Option.some.injEq,Prod.mk.injEq]at h
    obtain⟨rfl,rfl⟩:=h
    subst e;rfl
   ·exact step h
  |_=>simp only[findR]at h;exact step h
def lkR:List (List Int×Int)→List Int→Option (Nat×Int)
 |[],_=>none
 |e::l,k=>if e.1=k then some (0,e.2)else(lkR l k).map fun r=>(r.1+1,r.2)
def idR(l:List (List Int×Int))(k:List Int):Nat×Int:=(lkR l k).getD (l.length,0)
def upR(l:List (List Int×Int))(k:List Int):List (List Int×Int):=if(lkR l k).isSome then l else l++[(k,0)]
def stR(l:List (List Int×Int))(j:Nat)(n:Int):List (List Int×Int):=l.modify j fun e=>(e.1,n)
def zeroI(e:TypeId):Bool:=match P.underlying e,(P.info? e).bind (·.zero)with
 |some (.int .i64),some (.int .i64 0)=>true
 |_,_=>false
def keyL(t:TypeId):Option Nat:=match P.underlying t with
 |some (.map k e)=>if arrI P k=true∧zeroI P e=true then some (arrN P k)else none
 |_=>none
def rngD(H:Heap)(t:TypeId)(v:AV):Option (Nat×Nat):=match v with
 | .mp g=>match findR H g,keyL P t with
  |some (_,.map l),some _=>some (g,l.length)
  |_,_=>none
 |_=>none
structure NxD where
 b:Nat
 r:Nat
 g:Nat
 since:Nat
 seen:List Nat
 last:Nat
 l:List (List Int×Int)
def nxtD(H:Heap)(v:AV):Option NxD:=match v with
 | .val (.pointer (some ⟨r,0,none⟩))=>match findR H r with
  |some (b,.it g since seen last)=>match findR H g with
   |some (_,.map l)=>some ⟨b,r,g,since,seen,last,l⟩
   |_=>none
  |_=>none
 |_=>none
def strT(t:TypeId):Bool:=match P.underlying t with|some .string=>true|_=>false
def ptrT(t:TypeId):Bool:=match P.underlying t with|some (.pointer _)=>true|_=>false
def ifaT(t:TypeId):Bool:=match P.underlying t with|some (.interface _)=>true|_=>false
def conT(t:TypeId):Bool:=match P.underlying t with|some (.interface _)=>false|some _=>true|none=>false
def eqX(t:TypeId)(x y:AV)(oy:Operand):Option Bool:=match x,y,oy with
 | .nilP,.nilP,_=>if ptrT P t=true then some true else none
 | .pp _,.nilP,_=>if ptrT P t=true then some false else none
 | .lp _ _,.nilP,_=>if ptrT P t=true then some false else none
 | .rp _ _ _ _,.nilP,_=>if ptrT P t=true then some false else none
 | .lf .nilI,.lf .nilI,.const _=>if ifaT P t=true then some true else none
 | .lf .ifn,.lf .nilI,_=>if ifaT P t=true then some false else none
 | .ifc _ _,.lf .nilI,_=>if ifaT P t=true then some false else none
 |_,_,_=>none
def eqY(H:Heap)(op:BinOp)(t:TypeId)(x y:AV):Option Bool→Res
 |some b=>match op with
  | .eql=> .ok True (.bool b) H
  | .neq=> .ok True (.bool (!b)) H
  |_=> .bad
 |none=>aggEq P H op t x y
def strS(H:Heap)(t:TypeId)(x:AV)(lo:Option Int)(hi mx:Option (Option Int)):Res:=match x,lo,hi,mx with
 | .lf (.str l),some a,some (some b),some none=>if strT P t=true then .ok (0≤a∧a≤b∧b≤l.length) (.lf (.str ((l.take b.toNat).drop a.toNat))) H else .bad
 | .lf (.str l),some a,some none,some none=>if strT P t=true then .ok (0≤a∧a≤l.length) (.lf (.str (l.drop a.toNat))) H else .bad
 |_,_,_,_=> .bad
def lenS(H:Heap)(t:TypeId)(x:AV):Res:=match x with
 | .lf (.str l)=>if strT P t=true then .ok True (.int .i64 l.length) H else .bad
 |_=> .bad
def idxS(H:Heap)(t:TypeId)(x:AV)(j:Option Int):Res:=match x,j with
 | .lf (.str l),some j=>if strT P t=true then .ok (0≤j∧j<l.length) (.int .u8 (l.getD j.toNat 0).toNat) H else .bad
 |_,_=> .bad
def mthT(t:TypeId)(name:String):Option FuncId:=match P.info? t with
 |some i=>match i.methods.find? (·.name == name)with
  |some m=>match m.path.toList,m.func,conT P t&& !ptrT P t with
   |[],some (f,false),true=>some f
   |_,_,_=>none
  |none=>none
 |none=>none
def emV:Value→Bool
 | .string b=>b.data.toList.isEmpty
 |_=>false
def emO:Operand→Bool
 | .const v=>emV v
 | .tmp _=>false
 | .global _=>false
 | .func _=>false
def litE:List (Nat×Operand)→Bool
 |[]=>false
 |p::_=>emO p.2
def evOp(env:Env)(H:Heap):Op→Res
 | .move x=> .ok True (evA env x) H
 | .assign x=> .ok True (evA env x) H
 | .pick c a b=>match evA env c with
  | .bool t=> .ok True (if t then evA env a else evA env b) H
  |_=> .bad
 | .alloc ty=>match zeroT P ty with
  |some cs=>if cs.all AV.oneA then .ok True (.lp H.length 0) (H++[.box ty cs false])else .bad
  |none=> .bad
 | .box ty x=>match cellsA (evA env x)with
  |some cs=> .ok True (.lp H.length 0) (H++[.box ty cs false])
  |none=> .bad
 | .load t x=>ldA P H t (evA env x)
 | .store t a x=>stA P H t (evA env a) (evA env x)
 | .nilCheck x=>match evA env x with
  | .pp cs=> .ok True (.pp cs) H
  | .lp b off=> .ok True (.lp b off) H
  | .rp b n i off=> .ok True (.rp b n i off) H
  | .fn f caps=> .ok True (.fn f caps) H
  | .bf f caps=> .ok True (.bf f caps) H
  |_=> .bad
 | .binOp op t x y _=>match binA op (evA env x) (evA env y)with
  |some (p,v)=> .ok p v H
  |none=>eqY P H op t (evA env x) (evA env y) (eqX P t (evA env x) (evA env y) y)
 | .unOp .not _ x=>match evA env x with
  | .bool b=> .ok True (.bool (!b)) H
  |_=> .bad
 | .unOp .neg _ x=>match evA env x with
  | .int .i64 n=> .ok (I64 (-n)) (.int .i64 (-n)) H
  | .int .u64 n=> .ok True (.int .u64 ((-n) % 18446744073709551616)) H
  |_=> .bad
 | .convert s t x=>match ikT P s,ikT P t,evA env x with
  |some _,some .i64,.int _ n=> .ok (I64 n) (.int .i64 n) H
  |some _,some .u64,.int _ n=> .ok (U64 n) (.int .u64 n) H
  |_,_,_=> .bad
 | .fieldAddr s x f=>match fldT P s f,evA env x with
  |some (o,_),.pp cs=> .ok True (.pp (cs.drop o)) H
  |some (o,_),.lp b off=> .ok True (.lp b (off+o)) H
  |some (o,_),.rp b n i off=> .ok True (.rp b n i (off+o)) H
  |_,_=> .bad
 | .field s x f=>match fldT P s f,evA env x with
  |some (o,t),.agg cs=>ofO True H (ldC P t (cs.drop o))
  |_,_=> .bad
 | .indexAddr t x i=>match idxI (evA env i)with
  |some j=>idxA P H t (evA env x) j
  |none=> .bad
 | .index t x i=>match arT P t,idxI (evA env i),evA env x with
  |some (n,e,sz),some j,.agg cs=>match ldC P e (cs.drop (j.toNat*sz))with
   |some v=> .ok (0≤j∧j<n) v H
   |none=> .bad
  |none,j,x=>idxS P H t x j
  |_,_,_=> .bad
 | .slice t x lo hi mx=>match elT P t,intO env 0 lo,intOO env hi,intOO env mx with
  |some (_,sz),some l,some h,some m=>sliA H sz (evA env x) l h m
  |none,_,_,_=>match arT P t,lo,hi,mx,evA env x with
   |some (n,_,1),none,none,none,.pp cs=> .ok (0<n∧n≤cs.length∧n≤maxLen) (.lst true 1 (chunks 1 n cs)) H
   |_,_,_,_,_=>strS P H t (evA env x) (intO env 0 lo) (intOO env hi) (intOO env mx)
  |_,_,_,_=> .bad
 | .build t parts=>match plT P t,zeroT P t with
  |some (some pl),some cs=>ofO True H ((fillA (fun i=>pl[i]?) cs (parts.toList.map fun p=>(p.1,evA env p.2))).map AV.agg)
  |some none,some cs=>match arT P t with
   |some (_,_,sz)=>ofO True H ((fillA (fun i=>some (i*sz,sz)) cs (parts.toList.map fun p=>(p.1,evA env p.2))).map AV.agg)
   |none=> .bad
  |_,_=> .bad
 | .buildSlice t len parts=>match elT P t with
  |some (e,sz)=>match zeroT P e with
   |some z=>if z.length=sz∧len*sz≤1000∧0<sz then
     match fillA (fun i=>some (i*sz,sz)) ((List.replicate len z).flatten) (parts.toList.map fun p=>(p.1,evA env p.2))with
     |some cs=>if(cs.all AV.oneA=true∧AV.pureL cs=true)∧litE parts.toList=false then .ok True (.lst true sz (chunks sz len cs)) H else if chainS t∧cs.all AV.oneA=true∧0<len then .ok True (.row H.length len) (H++[.row e sz (chunks sz len cs) false])else .bad
     |none=> .bad
    else .bad
   |none=> .bad
  |none=> .bad
 | .makeFunc (.func f) first caps=>if first.size=0 then .ok True (.fn f (caps.toList.map (evA env))) H else if caps.size=0 then .ok True (.bf f (first.toList.map (evA env))) H else .bad
 | .extract x i=>match evA env x with
  | .tup vs=>ofO True H vs[i]?
  |_=> .bad
 | .makeSlice t l c=>match elT P t,intA (evA env l),intA (evA env c)with
  |some (e,sz+1),some l,some c=>match zeroT P e,byT P e with
   |some z,some by_=>if z.length=sz+1∧z.all AV.oneA then .ok (0≤l∧l=c∧l≤1000000∧l*by_≤1000000) (.row H.length l.toNat) (H++[.row e (sz+1) (List.replicate l.toNat z) false])else .bad
   |_,_=> .bad
  |_,_,_=> .bad
 | .call { callee:= .builtin .len,args,argTypes }=>match args.toList,argTypes.toList with
  |[x],[t]=>match elT P t,lenA (evA env x)with
   |some _,some n=> .ok True (.int .i64 n) H
   |_,_=>lenS P H t (evA env x)
  |_,_=> .bad
 | .makeInterface t x=>if conT P t=true then .ok True (.ifc t [evA env x]) H else .bad
 | .call { callee:= .builtin .max,args,.. }=>match args.toList with
  |[x,y]=>match intA (evA env x),intA (evA env y)with
   |some a,some b=> .ok True (.int .i64 (max a b)) H
   |_,_=> .bad
  |_=> .bad
 | .call { callee:= .builtin .min,args,.. }=>match args.toList with
  |[x,y]=>match intA (evA env x),intA (evA env y)with
   |some a,some b=> .ok True (.int .i64 (min a b)) H
   |_,_=> .bad
  |_=> .bad
 | .call { callee:= .builtin .append,args,argTypes }=>match args.toList,argTypes.toList with
  |[s,x],[t,t']=>if t=t' then appA P H t (evA env s) (evA env x)else .bad
  |_,_=> .bad
 | .lookup t m x ok=>match evA env m,evA env x with
  | .mp g,.int .i64 k=>match findM H g with
   |some (_,P',t',q,_,f)=> .ok (P'=P∧t'=t∧I64 k) (if ok=true then .tup [.int q ((f k).getD 0),.bool (f k).isSome]else .int q ((f k).getD 0)) H
   |none=> .bad
  | .pm P' t' q f,.int .i64 k=> .ok (P'=P∧t'=t∧I64 k) (if ok=true then .tup [.int q ((f k).getD 0),.bool (f k).isSome]else .int q ((f k).getD 0)) H
  | .mp g,.agg cs=>match intsA cs,findR H g,keyL P t with
   |some k,some (_,.map l),some n=>if ok=false then .ok (k.length=n∧ ∀e,e∈l→e.1.length=n) (.int .i64 (idR l k).2) H else .bad
   |_,_,_=> .bad
  |_,_=> .bad
 | .mapUpdate t m x v=>match evA env m,evA env x,evA env v with
  | .mp g,.int .i64 k,.int q' y=>match findM H g with
   |some (b,P',t',q,n,f)=> .ok (P'=P∧t'=t∧q'=q∧I64 k∧(Lit.int q y).wf=true∧n<maxLen) .any (H.set b (.mp P g t q (n+1) fun z=>if z=k then some y else f z))
   |none=> .bad
  |_,_,_=> .bad
 | .mapEntry t m x=>match evA env m,evA env x with
  | .mp g,.agg cs=>match intsA cs,findR H g,keyL P t with
   |some k,some (b,.map l),some n=> .ok (k.length=n∧ ∀e,e∈l→e.1.length=n) (.tup [.int .i64 (idR l k).2,.int .i64 (idR l k).1]) (H.set b (.raw g (.map (upR l k))))
   |_,_,_=> .bad
  |_,_=> .bad
 | .entryStore t m s v=>match evA env m,evA env s,evA env v with
  | .mp g,.int .i64 j,.int .i64 n=>match findR H g with
   |some (b,.map l)=> .ok (0≤j∧j<l.length) .any (H.set b (.raw g (.map (stR l j.toNat n))))
   |_=> .bad
  |_,_,_=> .bad
 | .entry x=>match evA env x with
  | .val (.pointer (some ⟨r,0,none⟩))=>match findR H r with
   |some (_,.it g _ seen last)=>match findR H g,seen.getLast? with
    |some (_,.map l),some j=> .ok (j<l.length∧last=l.length) (.tup [.agg ((l.getD j ([],0)).1.map (AV.int .i64)),.int .i64 (l.getD j ([],0)).2]) H
    |_,_=> .bad
   |_=> .bad
  |_=> .bad
 |_=> .bad
end
end Go.Fl
namespace Go.Fl
open Go.RowKit
section
variable {κ:Cx}
mutual
theorem V.of_pv: ∀(v:AV) (c:Value),PV κ.S κ.w v c→V κ v c
 | .any,_,_=>trivial
 | .int _ _,_,hv=>hv
 | .bool _,_,hv=>hv
 | .nilS,_,hv=>hv
 | .nilP,_,hv=>hv
 | .nilF,_,hv=>hv
 | .agg cs,_,⟨a,e,hl⟩=>⟨a,e,VL.of_pvl cs _ hl⟩
 | .tup cs,_,⟨a,e,hl⟩=>⟨a,e,VL.of_pvl cs _ hl⟩
 | .lst _ _ _,_,hv=>hv
 | .row _ _,_,hv=>hv.elim
 | .pp _,_,hv=>hv
 | .lp _ _,_,hv=>hv.elim
 | .rp _ _ _ _,_,hv=>hv.elim
 | .rg _ _ _,_,hv=>hv.elim
 | .fn _ caps,_,⟨a,e,hl⟩=>⟨a,e,VL.of_pvl caps _ hl⟩
 | .bf _ caps,_,⟨a,e,hl⟩=>⟨a,e,VL.of_pvl caps _ hl⟩
 | .yld _,_,hv=>hv.elim
 | .mp _,_,hv=>hv.elim
 | .val _,_,hv=>hv.elim
 | .pm _ _ _ _,_,hv=>hv
 | .alt _,_,hv=>hv
 | .lf _,_,hv=>hv
 | .ifc _ caps,_,⟨a,e,hl⟩=>⟨a,e,VL.of_pvl caps _ hl⟩
theorem VL.of_pvl: ∀(vs:List AV) (l:List Value),PVL κ.S κ.w vs l→VL κ vs l
 |[],_,hv=>hv
 |v::vs,_,⟨c,cs,e,h1,h2⟩=>⟨c,cs,e,V.of_pv v c h1,VL.of_pvl vs cs h2⟩
end
end
def Cells(κ:Cx)(cs:List AV)(ad:Addr):Prop:=
 ∃l:List Value,VL κ cs l∧(∀u∈l,u.oneCell'=true)∧ ∀(j:Nat) (u:Value),l[j]? =some u→κ.w.cell? ⟨ad.block,ad.off+j,none⟩=some u
theorem add_none{ad:Addr}(h:ad.spot=none)(j:Nat):ad.add j=⟨ad.block,ad.off+j,none⟩:=by
 obtain⟨b,o,s⟩:=ad
 subst h
 unfold Addr.add
 split
 ·rename_i h0;subst h0;rfl
 ·rfl
theorem Cells.of_pvc{κ:Cx}: ∀(cs:List AV) (ad:Addr),ad.spot=none→PVC κ.S κ.w cs ad→Cells κ cs ad
 |[],_,_,_=>⟨[],rfl,by simp,by simp⟩
 |v::vs,⟨b,o,none⟩,_,⟨⟨c,h1,_,h3,h4⟩,h5⟩=>by
  obtain⟨l,a1,a2,a3⟩:=Cells.of_pvc vs ⟨b,o+1,none⟩ rfl h5
  refine⟨c::l,⟨c,l,rfl,V.of_pv v c h4,a1⟩,by simpa using ⟨h3,a2⟩,fun j u hu=>?_⟩
  cases j with
  |zero=>simp at hu;subst hu;simpa using h1
  |succ j=>
   have:=a3 j u (by simpa using hu)
   simp only at this ⊢
   rw[show o+(j+1)=o+1+j from by omega]
   exact this
theorem PVC.drop{S:Nat→Nat→Prop}{w:World}: ∀(n:Nat) (cs:List AV) (ad:Addr),ad.spot=none→PVC S w cs ad→PVC S w (cs.drop n) ⟨ad.block,ad.off+n,none⟩
 |0,cs,⟨b,o,none⟩,_,h=>by simpa using h
 |n+1,[],_,_,_=>trivial
 |n+1,v::vs,⟨b,o,none⟩,_,⟨_,h⟩=>by
  have:=PVC.drop n vs ⟨b,o+1,none⟩ rfl h
  simpa[Nat.add_assoc,Nat.add_comm 1 n]using this
theorem PVE.get{S:Nat→Nat→Prop}{w:World}{sz:Nat}: ∀(es:List (List AV)) (ad:Addr) (i:Nat) (e:List AV),ad.spot=none→PVE S w sz es ad→es[i]? =some e→PVC S w e ⟨ad.block,ad.off+i*sz,none⟩
 |[],_,i,e,_,_,h=>by simp at h
 |e0::es,⟨b,o,none⟩,0,e,_,⟨h1,_⟩,h=>by simp at h;subst h;simpa using h1
 |e0::es,⟨b,o,none⟩,i+1,e,_,⟨_,h2⟩,h=>by
  have:=PVE.get es ⟨b,o+sz,none⟩ i e rfl h2 (by simpa using h)
  simp only at this ⊢
  rw[show o+(i+1)*sz=o+sz+i*sz from by rw[Nat.add_mul];omega]
  exact this
theorem PVE.drop{S:Nat→Nat→Prop}{w:World}{sz:Nat}: ∀(n:Nat) (es:List (List AV)) (ad:Addr),ad.spot=none→PVE S w sz es ad→PVE S w sz (es.drop n) ⟨ad.block,ad.off+n*sz,none⟩
 |0,es,⟨b,o,none⟩,_,h=>by simpa using h
 |n+1,[],_,_,_=>trivial
 |n+1,e::es,⟨b,o,none⟩,_,⟨_,h⟩=>by
  have:=PVE.drop n es ⟨b,o+sz,none⟩ rfl h
  simp only at this ⊢
  rw[show o+(n+1)*sz=o+sz+n*sz from by rw[Nat.add_mul];omega]
  exact this
theorem PVE.take{S:Nat→Nat→Prop}{w:World}{sz:Nat}: ∀(n:Nat) (es:List (List AV)) (ad:Addr),PVE S w sz es ad→PVE S w sz (es.take n) ad
 |0,_,_,_=>trivial
 |_+1,[],_,_=>trivial
 |n+1,_::es,_,⟨h1,h2⟩=>⟨h1,PVE.take n es _ h2⟩
theorem Cells.drop{κ:Cx}{cs:List AV}{ad:Addr}(h:Cells κ cs ad)(n:Nat):Cells κ (cs.drop n) ⟨ad.block,ad.off+n,none⟩:=by
 obtain⟨l,h1,h2,h3⟩:=h
 refine⟨l.drop n,h1.drop n,fun u hu=>h2 u (mem_of_mem_drop hu),fun j u hu=>?_⟩
 rw[getElem?_drop]at hu
 have:=h3 _ u hu
 simp only at this ⊢
 rw[Nat.add_assoc];exact this
theorem Cells.of_box{κ:Cx}(hc:Conc κ){b:Nat}{ty:TypeId}{cs:List AV}{sl:Bool}(h:κ.H[b]? =some (.box ty cs sl)):Cells κ cs ⟨(κ.ρ b).blk,0,none⟩:=by
 obtain⟨_,cur,h2,h3,h4,_⟩:=hc.blk b _ h
 refine⟨cur.toList,h3,h4,fun j u hu=>?_⟩
 rw[Nat.zero_add,cell_of_row κ.w _ j cur ty (0,0) h2]
 simpa using hu
theorem Cells.of_row{κ:Cx}(hc:Conc κ){b:Nat}{el:TypeId}{sz:Nat}{es:List (List AV)}{sl:Bool}(h:κ.H[b]? =some (.row el sz es sl))(hn:(κ.ρ b).isNil=false):
  Cells κ es.flatten ⟨(κ.ρ b).blk,0,none⟩:=by
 obtain⟨_,_,_,h4⟩:=hc.blk b _ h
 obtain⟨⟨cur,a1,a2,a3,a4,a5,a6⟩,_⟩:=h4 hn
 refine⟨_,a5,a6,fun j u hu=>?_⟩
 rw[Nat.zero_add,cell_of_row κ.w _ j cur el (0,0) a1]
 rw[getElem?_take]at hu
 split at hu
 ·simpa using hu
 ·cases hu
theorem flatten_drop{sz:Nat}: ∀(es:List (List AV)) (i:Nat),(∀e∈es,e.length=sz)→es.flatten.drop (i*sz)=(es.drop i).flatten
 |[],i,_=>by simp
 |e::es,0,_=>by simp
 |e::es,i+1,h=>by
  have he:=h e (by simp)
  rw[flatten_cons,List.drop_succ_cons,← flatten_drop es i (fun x hx=>h x (by simp[hx])),List.drop_append,he]
  rw[show(i+1)*sz-sz=i*sz from by rw[Nat.add_mul];omega,List.drop_eq_nil_of_le (by rw[he,Nat.add_mul];omega)]
  simp
theorem flatten_length{sz:Nat}: ∀(es:List (List AV)),(∀e∈es,e.length=sz)→es.flatten.length=es.length*sz
 |[],_=>by simp
 |e::es,h=>by
  rw[flatten_cons,length_append,flatten_length es (fun x hx=>h x (by simp[hx])),h e (by simp),length_cons,Nat.add_mul];omega
theorem Cells.take{κ:Cx}{cs:List AV}{ad:Addr}(h:Cells κ cs ad)(n:Nat):Cells κ (cs.take n) ad:=by
 obtain⟨l,h1,h2,h3⟩:=h
 refine⟨l.take n,h1.take n,fun u hu=>h2 u (mem_of_mem_take hu),fun j u hu=>?_⟩
 rw[getElem?_take]at hu
 split at hu
 ·exact h3 j u hu
 ·cases hu
theorem Cells.of_row_el{κ:Cx}(hc:Conc κ){b:Nat}{el:TypeId}{sz:Nat}{es:List (List AV)}{sl:Bool}(h:κ.H[b]? =some (.row el sz es sl)){i:Nat}(hi:i<es.length)(off:Nat):
  Cells κ ((es.getD i []).drop off) ⟨(κ.ρ b).blk,i*sz+off,none⟩:=by
 obtain⟨h1,h2,h3,_⟩:=hc.blk b _ h
 have hn:(κ.ρ b).isNil=false:=by
  cases hq:(κ.ρ b).isNil with
  |false=>rfl
  |true=>have:=(h3 hq).2;subst this;simp at hi
 have hcells:=(Cells.of_row hc h hn).drop (i*sz)
 rw[flatten_drop es i h2]at hcells
 have he:es.drop i=es[i]::es.drop (i+1):=List.drop_eq_getElem_cons hi
 rw[he,flatten_cons]at hcells
 have h5:=(hcells.take (es[i]).length)
 rw[take_left']at h5
 ·have h6:=h5.drop off
  simp only[Nat.zero_add]at h6
  have:es.getD i []=es[i]:=by simp[hi]
  rw[this];exact h6
 ·rfl
theorem run_isAgg{P:Program}{t:TypeId}{b:Bool}(h:aggT P t=some b)(w:World):(isAgg t).run P w= .ok b w:=by
 unfold aggT at h
 obtain⟨d,h1,h2⟩:=Option.map_eq_some_iff.1 h
 unfold isAgg
 simp only[Sem.run_bind,run_underlying h1,Result.andThen]
 cases d<;>simp_all<;>rfl
theorem run_sizeOf{P:Program}{t:TypeId}{n:Nat}(h:szT P t=some n)(w:World):(sizeOf t).run P w= .ok n w:=by
 obtain⟨i,h1,h2⟩:=Option.map_eq_some_iff.1 h
 simp[sizeOf,typeInfo,h1,h2]
theorem ldC_sound{P:Program}{κ:Cx}{t:TypeId}{cs:List AV}{v:AV}{ad:Addr}(hs:ad.spot=none)(hc:Cells κ cs ad)(h:ldC P t cs=some v):
  ∃c,(loadVar t ad).run P κ.w= .ok c κ.w∧V κ v c:=by
 obtain⟨l,h1,h2,h3⟩:=hc
 have hlen:=h1.length
 unfold ldC at h
 unfold loadVar
 split at h
 ·rename_i n ha hz
  split at h
  ·rename_i hle
   cases h
   refine⟨.agg (l.take n).toArray,?_,_,rfl,by simpa using h1.take n⟩
   have hl:=run_loadCells_list (P:=P) κ.w ad (l.take n) (fun j u hu=>by
    rw[getElem?_take]at hu
    split at hu
    ·rw[add_none hs];exact h3 j u hu
    ·cases hu)
   rw[show(l.take n).length=n from by simp;omega]at hl
   simp[Sem.run_bind,run_isAgg ha,run_sizeOf hz,Result.andThen,hl]
  ·cases h
 ·rename_i ha
  cases cs with
  |nil=>simp at h
  |cons u us=>
   simp at h;subst h
   obtain⟨c,l',e,hv,_⟩:=h1
   subst e
   have h4:=h3 0 c rfl
   refine⟨c,?_,hv⟩
   have hcell:κ.w.cell? ad=some c:=by
    obtain⟨b,o,s⟩:=ad
    simp only at hs;subst hs
    simpa using h4
   simp[Sem.run_bind,run_isAgg ha,Result.andThen,load,Sem.run,hcell]
 ·cases h
def OpOk(P:Program)(κ:Cx)(s:Sem Next)(v:AV)(H':Heap):Prop:=
 ∃(κ':Cx) (c:Value),(s.run P κ.w= .ok (.value c) κ'.w∨(s.run P κ.w= .ok .skip κ'.w∧c=undef))∧Conc κ'∧StepM κ κ'∧κ'.H=H'∧V κ' v c
def ValOk(P:Program)(κ:Cx)(s:Sem Value)(v:AV)(H':Heap):Prop:=
 ∃(κ':Cx) (c:Value),s.run P κ.w= .ok c κ'.w∧Conc κ'∧StepM κ κ'∧κ'.H=H'∧V κ' v c
theorem ValOk.op{P:Program}{κ:Cx}{s:Sem Value}{v:AV}{H':Heap}(h:ValOk P κ s v H'):OpOk P κ (do pure (.value (←s))) v H':=by
 obtain⟨κ',c,h1,h2⟩:=h
 exact⟨κ',c,.inl (by simp[Sem.run_bind,h1,Result.andThen]),h2⟩
theorem ValOk.same{P:Program}{κ:Cx}{s:Sem Value}{v:AV}{c:Value}(hc:Conc κ)(hr:s.run P κ.w= .ok c κ.w)(hv:V κ v c):ValOk P κ s v κ.H:=
 ⟨κ,c,hr,hc,.refl κ,rfl,hv⟩
structure Rho(κ:Cx)(env:Env)(ρv:Operand→Value):Prop where
 t: ∀t,V κ (eget env t) (ρv (.tmp t))
 c: ∀v,ρv (.const v)=v
 f: ∀f,ρv (.func f)= .func (.func f) #[] #[]
 g: ∀g,V κ (gav g) (ρv (.global g))
theorem abs1_ok(κ:Cx)(v:Value):V κ (abs1 v) v:=by
 unfold abs1
 split<;>first|exact rfl|trivial
theorem absL_ok(κ:Cx): ∀l:List Value,VL κ (l.map abs1) l
 |[]=>rfl
 |v::l=>⟨v,l,rfl,abs1_ok κ v,absL_ok κ l⟩
theorem absV_ok(κ:Cx)(v:Value):V κ (absV v) v:=by
 unfold absV
 split
 ·exact⟨_,rfl,absL_ok κ _⟩
 ·exact abs1_ok κ v
theorem Rho.ev{κ:Cx}{env:Env}{ρv:Operand→Value}(h:Rho κ env ρv): ∀x,V κ (evA env x) (ρv x)
 | .tmp t=>h.t t
 | .const v=>by rw[h.c];exact absV_ok κ v
 | .global g=>h.g g
 | .func f=>by rw[h.f];exact⟨#[],rfl,rfl⟩
theorem one_of{κ:Cx}{v:AV}{c:Value}(h:V κ v c)(h1:v.oneA=true):c.oneCell'=true:=by
 cases v with
 |any=>cases h1
 |agg=>cases h1
 |tup=>cases h1
 |int k n=>rw[show c=_ from h];rfl
 |bool b=>rw[show c=_ from h];rfl
 |nilS=>rw[show c=_ from h];rfl
 |nilP=>rw[show c=_ from h];rfl
 |nilF=>rw[show c=_ from h];rfl
 |lst f sz es=>obtain⟨A,cap,e,_⟩:=h;rw[e];rfl
 |row b n=>obtain⟨⟨A,cap,e⟩,_⟩:=h;rw[e];rfl
 |pp cs=>obtain⟨ad,e,_⟩:=h;rw[e];rfl
 |lp b o=>obtain⟨ty,cs,sl,_,e⟩:=h;rw[e];rfl
 |rp b n i o=>obtain⟨⟨A,e⟩,_⟩:=h;rw[e];rfl
 |rg b n g=>obtain⟨⟨A,cap,e⟩,_⟩:=h;rw[e];rfl
 |fn f caps=>obtain⟨a,e,_⟩:=h;rw[e];rfl
 |bf f caps=>obtain⟨a,e,_⟩:=h;rw[e];rfl
 |yld l=>rw[show c=_ from h];rfl
 |mp l=>rw[show c=_ from h];rfl
 |val l=>
  cases l with
  |map m=>
   cases m with
   |none=>rw[show c=_ from h];rfl
   |some _=>cases h1
  |_=>cases h1
 |pm P' t q f=>obtain⟨g,n,e,_⟩:=h;rw[e];rfl
 |alt vs=>cases h1
 |lf x=>
  cases x with
  |str l=>rw[show c=_ from h];rfl
  |nilI=>rw[show c=_ from h];rfl
  |ifn=>obtain⟨t,p,e⟩:=(show∃t p,c=Value.iface t p from h);rw[e];rfl
  |ai k=>obtain⟨n,e⟩:=(show∃n,c=Value.int k n from h);rw[e];rfl
 |ifc t cs=>obtain⟨a,e,_⟩:=h;rw[e];rfl
theorem cells_one{c:Value}(h:c.oneCell'=true):c.cells= #[c]:=by
 cases c<;>first|rfl|cases h
theorem VL.one_all{κ:Cx}: ∀{cs:List AV} {l:List Value},VL κ cs l→cs.all AV.oneA=true→ ∀u∈l,u.oneCell'=true
 |[],_,h,_,u,hu=>by rw[show _=_ from h]at hu;cases hu
 |v::cs,_,⟨c,l,e,h1,h2⟩,ha,u,hu=>by
  subst e
  simp at ha hu
  rcases hu with rfl|hu
  ·exact one_of h1 ha.1
  ·exact VL.one_all h2 (by simpa using ha.2) u hu
theorem cellsA_ok{κ:Cx}{v:AV}{c:Value}{cs:List AV}(h:V κ v c)(hc:cellsA v=some cs):VL κ cs c.cells.toList∧(∀u∈c.cells.toList,u.oneCell'=true)∧cs.all AV.oneA=true:=by
 unfold cellsA at hc
 split at hc
 ·split at hc
  ·rename_i ha
   cases hc
   obtain⟨a,e,hl⟩:=h
   subst e
   exact⟨hl,VL.one_all hl ha,ha⟩
  ·cases hc
 ·split at hc
  ·rename_i ha
   cases hc
   have h1:=one_of h ha
   rw[cells_one h1]
   exact⟨VL.one h,by simpa using h1,by simpa using ha⟩
  ·cases hc
section
variable {P:Program} {κ:Cx}
theorem newVar_ok(hc:Conc κ)(ty:TypeId){c:Value}{cs:List AV}(hl:VL κ cs c.cells.toList)(h1: ∀u∈c.cells.toList,u.oneCell'=true):
  ∃κ',(newVar ty c).run P κ.w= .ok ⟨κ.w.heap.size,0,none⟩ κ'.w∧Conc κ'∧StepM κ κ'∧κ'.H=κ.H++[.box ty cs false]∧V κ' (.lp κ.H.length 0) (.pointer (some ⟨κ.w.heap.size,0,none⟩)):=by
 have hp:=hc.push (w':=κ.w.alloc (.cells c.cells ty)) { blk:=κ.w.heap.size,cap:=0,isNil:=false } (.box ty cs false) rfl rfl rfl (by simp) (fun g hg=>Below.heap_alloc _ _ _ hg)
  (fun _=>⟨Nat.le_refl _,by simp⟩) (fun hk=>⟨by simp,c.cells,by simp only[upd_same];exact heap_alloc_new _ _,VL.mono hk _ _ hl,h1,fun _ o hs=>by
   have:=hc.swf _ _ hs
   simp at this⟩)
 refine⟨_,?_,hp.1,hp.2,rfl,ty,cs,false,by simp,by simp⟩
 simp[newVar,newRow,Sem.run_bind,Result.andThen]
theorem alloc_ok(hc:Conc κ){ty:TypeId}{cs:List AV}(hz:zeroT P ty=some cs)(ha:cs.all AV.oneA=true):
  ValOk P κ (Instr.alloc ty true (.tuple #[])) (.lp κ.H.length 0) (κ.H++[.box ty cs false]):=by
 unfold zeroT at hz
 split at hz
 ·rename_i z hi
  cases hz
  obtain⟨i,h1,h2⟩:=Option.bind_eq_some_iff.1 hi
  have hl:=absL_ok κ z.cells.toList
  obtain⟨κ',a1,a2,a3,a4,a5⟩:=newVar_ok (P:=P) hc ty hl (VL.one_all hl ha)
  refine⟨κ',_,?_,a2,a3,a4,a5⟩
  simp[Instr.alloc,zeroValue,typeInfo,Sem.run_bind,Result.andThen,h1,h2,a1]
 ·cases hz
theorem box_ok(hc:Conc κ){ty:TypeId}{v:AV}{c:Value}{cs:List AV}(hv:V κ v c)(hz:cellsA v=some cs):
  ValOk P κ (Instr.box ty c) (.lp κ.H.length 0) (κ.H++[.box ty cs false]):=by
 obtain⟨hl,h1,_⟩:=cellsA_ok hv hz
 obtain⟨κ',a1,a2,a3,a4,a5⟩:=newVar_ok (P:=P) hc ty hl h1
 exact⟨κ',_,by simp[Instr.box,Sem.run_bind,Result.andThen,a1],a2,a3,a4,a5⟩
theorem load_ok(hc:Conc κ){t:TypeId}{x:AV}{c:Value}{p:Prop}{v:AV}{H':Heap}(hx:V κ x c)(h:ldA P κ.H t x= .ok p v H')(hp:p):ValOk P κ (Instr.loadAt t c) v H':=by
 have fin: ∀{cs:List AV} {ad:Addr} {q:Prop},ad.spot=none→Cells κ cs ad→c= .pointer (some ad)→ofO q κ.H (ldC P t cs)= .ok p v H'→ValOk P κ (Instr.loadAt t c) v H':=by
  intro cs ad q hs hcs e ho
  cases hl:ldC P t cs with
  |none=>rw[hl]at ho;cases ho
  |some u=>
   rw[hl]at ho
   simp only[ofO,Res.ok.injEq]at ho
   obtain⟨_,rfl,rfl⟩:=ho
   obtain⟨c',hr,hv⟩:=ldC_sound hs hcs hl
   subst e
   exact .same hc (by simp[Instr.loadAt,Instr.sureAddr,Sem.run_bind,Result.andThen,hr]) hv
 cases x with
 |pp cs=>
  obtain⟨ad,e,hs,hpv⟩:=hx
  exact fin hs (.of_pvc cs ad hs hpv) e h
 |lp b off=>
  obtain⟨ty,cs,sl,hb,e⟩:=hx
  simp only[ldA,hb]at h
  have:=(Cells.of_box hc hb).drop off
  simp only[Nat.zero_add]at this
  exact fin rfl this e h
 |rp b n i off=>
  obtain⟨_,el,sz,es,sl,hb,hle,e⟩:=hx
  simp only[ldA,hb]at h
  have hq:es.length=n∧i<n:=by
   cases hl:ldC P t ((es.getD i []).drop off)with
   |none=>rw[hl]at h;cases h
   |some u=>rw[hl]at h;simp only[ofO,Res.ok.injEq]at h;rw[h.1];exact hp
  exact fin rfl (Cells.of_row_el hc hb (by omega) off) (e hq.1) h
 |_=>cases h
theorem wrap_i64{n:Int}(h:I64 n):IntKind.i64.wrap n=n:=by
 exact IntWalk.i64_in n h
theorem cmpA_ok{op:BinOp}{a b:Int}{r:Bool}(h:cmpA op a b=some r)(w:World):(binOp op 0 (.int .i64 a) (.int .i64 b)).run P w= .ok (.bool r) w∧ ∀t x y,(eqGuard op t x y (.int .i64 a) (.int .i64 b)).run P w= .ok () w:=by
 cases op<;>simp only[cmpA,Option.some.injEq]at h<;>first|(cases h;done)|skip
 all_goals
  subst h
  constructor
  ·simp[binOp,Op.intCmp,BEq.beq,bne]
  ·intros;simp[eqGuard]
end
end Go.Fl
namespace Go.Fl
open Go.RowKit
section
variable {P:Program} {κ:Cx}
theorem ofO_ok{p q:Prop}{H H':Heap}{o:Option AV}{v:AV}(h:ofO q H o= .ok p v H'):o=some v∧p=q∧H'=H:=by
 cases o with
 |none=>cases h
 |some u=>simp only[ofO,Res.ok.injEq]at h;obtain⟨rfl,rfl,rfl⟩:=h;exact⟨rfl,rfl,rfl⟩
theorem bits_mod{a:Int}(h:I64 a)(h0:0≤a):a % 2^IntKind.i64.bits=a:=
 Int.emod_eq_of_lt h0 (by rw[show(2:Int)^IntKind.i64.bits=18446744073709551616 from rfl];unfold I64 at h;omega)
theorem arA_ok{op:BinOp}{a b n:Int}{q:Prop}(hc:cmpA op a b=none)(h:arA op a b=some (q,n))(hq:q)(t:TypeId)(w:World):
  (binOp op t (.int .i64 a) (.int .i64 b)).run P w= .ok (.int .i64 n) w∧ ∀t x y,(eqGuard op t x y (.int .i64 a) (.int .i64 b)).run P w= .ok () w:=by
 cases op<;>simp only[arA,Option.some.injEq,Prod.mk.injEq]at h<;>first|(cases h;done)|skip
 all_goals
  obtain⟨rfl,rfl⟩:=h
 ·exact⟨by simp[binOp,Op.intArith,wrap_i64 hq],by intros;simp[eqGuard]⟩
 ·exact⟨by simp[binOp,Op.intArith,wrap_i64 hq],by intros;simp[eqGuard]⟩
 ·exact⟨by simp[binOp,Op.intArith,wrap_i64 hq],by intros;simp[eqGuard]⟩
 ·obtain⟨h1,h2,h3⟩:=hq
  have hb:b≠0:=by omega
  have hd:a.tdiv b=a / b:=Int.tdiv_eq_ediv_of_nonneg h1
  have h4:I64 (a / b):=by
   unfold I64 at h3 ⊢
   have:=Int.ediv_nonneg h1 (Int.le_of_lt h2)
   have:=Int.ediv_le_self b h1
   omega
  exact⟨by simp[binOp,Op.intDiv,hb,hd,wrap_i64 h4],by intros;simp[eqGuard]⟩
 ·obtain⟨h1,h2⟩:=hq
  have hb:b≠0:=by omega
  have hd:a.tmod b=a % b:=Int.tmod_eq_emod_of_nonneg h1
  exact⟨by simp[binOp,Op.intDiv,hb,hd],by intros;simp[eqGuard]⟩
 ·obtain⟨h1,h2,h3,h4⟩:=hq
  have e1:=bits_mod h3 h1
  have e2:=bits_mod h4 h2
  have hw:IntKind.wrap .i64 ((a.toNat &&& b.toNat:Nat):Int)=((a.toNat &&& b.toNat:Nat):Int):=wrap_i64 (by
   have:= @Nat.and_le_left a.toNat b.toNat
   unfold I64 at h3 ⊢;omega)
  exact⟨by simp[binOp,Op.intBits,BitVec.toNat_and,e1,e2,hw],by intros;simp[eqGuard]⟩
 ·obtain⟨h1,h2,h3,h4⟩:=hq
  have e1:=bits_mod h3 h1
  have e2:=bits_mod h4 h2
  have hw:IntKind.wrap .i64 ((a.toNat ||| b.toNat:Nat):Int)=((a.toNat ||| b.toNat:Nat):Int):=wrap_i64 (by
   have:=Nat.or_lt_two_pow (n:=63) (x:=a.toNat) (y:=b.toNat) (by unfold I64 at h3;omega) (by unfold I64 at h4;omega)
   unfold I64;omega)
  exact⟨by simp[binOp,Op.intBits,BitVec.toNat_or,e1,e2,hw],by intros;simp[eqGuard]⟩
 ·obtain⟨h1,h2,h3⟩:=hq
  have hb: ¬b<0:=by omega
  have hm:min b.toNat 64=b.toNat:=by omega
  exact⟨by simp[binOp,Op.shift,hb,IntKind.bits,hm,wrap_i64 h3],by intros;simp[eqGuard]⟩
 ·obtain⟨h1,h2⟩:=hq
  have hb: ¬b<0:=by omega
  have hm:min b.toNat 64=b.toNat:=by omega
  have hd:a.fdiv (2^b.toNat)=a / 2^b.toNat:=Int.fdiv_eq_ediv_of_nonneg _ (Int.le_of_lt (Int.pow_pos (by omega)))
  exact⟨by simp[binOp,Op.shift,hb,IntKind.bits,hm,hd],by intros;simp[eqGuard]⟩
 ·obtain⟨h1,h2,h3,h4⟩:=hq
  have e1:=bits_mod h3 h1
  have e2:=bits_mod h4 h2
  have hw:IntKind.wrap .i64 ((a.toNat &&& (18446744073709551615-b.toNat):Nat):Int)=((a.toNat &&& (18446744073709551615-b.toNat):Nat):Int):=wrap_i64 (by
   have:= @Nat.and_le_left a.toNat (18446744073709551615-b.toNat)
   unfold I64 at h3 ⊢;omega)
  have e3:(2:Nat)^IntKind.i64.bits-1-b.toNat=18446744073709551615-b.toNat:=by rw[show(2:Nat)^IntKind.i64.bits=18446744073709551616 from rfl]
  exact⟨by simp[binOp,Op.intBits,BitVec.toNat_and,BitVec.toNat_not,e1,e2,e3,hw],by intros;simp[eqGuard]⟩
theorem wrap_u64m(n:Int):IntKind.u64.wrap n=n % 18446744073709551616:=by
 simp[IntKind.wrap,IntKind.signed,IntKind.bits]
theorem wrap_u64{n:Int}(h:U64 n):IntKind.u64.wrap n=n:=by
 rw[wrap_u64m];exact Int.emod_eq_of_lt h.1 h.2
theorem bits_modU{a:Int}(h:U64 a):a % 2^IntKind.u64.bits=a:=Int.emod_eq_of_lt h.1 (by rw[show(2:Int)^IntKind.u64.bits=18446744073709551616 from rfl];exact h.2)
theorem shU_ok{op:BinOp}{a b n:Int}{q:Prop}{k:IntKind}(h:shU op a b=some (q,n))(hq:q)(t:TypeId)(w:World):
  (binOp op t (.int .u64 a) (.int k b)).run P w= .ok (.int .u64 n) w∧ ∀t x y,(eqGuard op t x y (.int .u64 a) (.int k b)).run P w= .ok () w:=by
 cases op<;>simp only[shU,Option.some.injEq,Prod.mk.injEq]at h<;>first|(cases h;done)|skip
 all_goals
  obtain⟨rfl,rfl⟩:=h
 ·obtain⟨h0,h1,h2,h3⟩:=hq
  have hb: ¬b<0:=by omega
  have hm:min b.toNat 64=b.toNat:=by omega
  exact⟨by simp[binOp,Op.shift,hb,IntKind.bits,hm,wrap_u64 h3],by intros;simp[eqGuard]⟩
 ·obtain⟨h0,h1,h2⟩:=hq
  have hb: ¬b<0:=by omega
  have hm:min b.toNat 64=b.toNat:=by omega
  have hd:a.fdiv (2^b.toNat)=a / 2^b.toNat:=Int.fdiv_eq_ediv_of_nonneg _ (Int.le_of_lt (Int.pow_pos (by omega)))
  exact⟨by simp[binOp,Op.shift,hb,IntKind.bits,hm,hd],by intros;simp[eqGuard]⟩
theorem nat_and_lt{a b:Nat}(h:a<18446744073709551616):a &&& b<18446744073709551616:=Nat.lt_of_le_of_lt Nat.and_le_left h
theorem arU_ok{op:BinOp}{a b n:Int}{q:Prop}(hc:cmpA op a b=none)(h:arU op a b=some (q,n))(hq:q)(t:TypeId)(w:World):
  (binOp op t (.int .u64 a) (.int .u64 b)).run P w= .ok (.int .u64 n) w∧ ∀t x y,(eqGuard op t x y (.int .u64 a) (.int .u64 b)).run P w= .ok () w:=by
 cases op
 case shl=>exact shU_ok (op:= .shl) (show shU .shl a b=some (q,n)from h) hq t w
 case shr=>exact shU_ok (op:= .shr) (show shU .shr a b=some (q,n)from h) hq t w
 all_goals simp only[arU,shU,Option.some.injEq,Prod.mk.injEq]at h
 all_goals first|(cases h;done)|skip
 all_goals
  obtain⟨rfl,rfl⟩:=h
 ·exact⟨by simp[binOp,Op.intArith,wrap_u64 hq],by intros;simp[eqGuard]⟩
 ·exact⟨by simp[binOp,Op.intArith,wrap_u64 hq],by intros;simp[eqGuard]⟩
 ·exact⟨by simp[binOp,Op.intArith,wrap_u64 hq],by intros;simp[eqGuard]⟩
 ·obtain⟨h1,h2⟩:=hq
  have e1:=bits_modU h1
  have e2:=bits_modU h2
  have hw:IntKind.wrap .u64 ((a.toNat &&& b.toNat:Nat):Int)=((a.toNat &&& b.toNat:Nat):Int):=wrap_u64 (by
   have:=nat_and_lt (a:=a.toNat) (b:=b.toNat) (by unfold U64 at h1;omega)
   unfold U64;omega)
  exact⟨by simp[binOp,Op.intBits,BitVec.toNat_and,e1,e2,hw],by intros;simp[eqGuard]⟩
 ·obtain⟨h1,h2⟩:=hq
  have e1:=bits_modU h1
  have e2:=bits_modU h2
  have hw:IntKind.wrap .u64 ((a.toNat ||| b.toNat:Nat):Int)=((a.toNat ||| b.toNat:Nat):Int):=wrap_u64 (by
   have:=Nat.or_lt_two_pow (n:=64) (x:=a.toNat) (y:=b.toNat) (by unfold U64 at h1;omega) (by unfold U64 at h2;omega)
   unfold U64;omega)
  exact⟨by simp[binOp,Op.intBits,BitVec.toNat_or,e1,e2,hw],by intros;simp[eqGuard]⟩
 ·obtain⟨h1,h2⟩:=hq
  have e1:=bits_modU h1
  have e2:=bits_modU h2
  have hw:IntKind.wrap .u64 ((a.toNat &&& (18446744073709551615-b.toNat):Nat):Int)=((a.toNat &&& (18446744073709551615-b.toNat):Nat):Int):=wrap_u64 (by
   have:=nat_and_lt (a:=a.toNat) (b:=18446744073709551615-b.toNat) (by unfold U64 at h1;omega)
   unfold U64;omega)
  have e3:(2:Nat)^IntKind.u64.bits-1-b.toNat=18446744073709551615-b.toNat:=by rw[show(2:Nat)^IntKind.u64.bits=18446744073709551616 from rfl]
  exact⟨by simp[binOp,Op.intBits,BitVec.toNat_and,BitVec.toNat_not,e1,e2,e3,hw],by intros;simp[eqGuard]⟩
theorem cmpU_ok{op:BinOp}{a b:Int}{r:Bool}(h:cmpA op a b=some r)(t:TypeId)(w:World):(binOp op t (.int .u64 a) (.int .u64 b)).run P w= .ok (.bool r) w∧ ∀t x y,(eqGuard op t x y (.int .u64 a) (.int .u64 b)).run P w= .ok () w:=by
 cases op<;>simp only[cmpA,Option.some.injEq]at h<;>first|(cases h;done)|skip
 all_goals
  subst h
  constructor
  ·simp[binOp,Op.intCmp,BEq.beq,bne]
  ·intros;simp[eqGuard]
theorem ikT_ok{t:TypeId}{k:IntKind}(h:ikT P t=some k):P.underlying t=some (.int k):=by
 unfold ikT at h
 split at h
 ·cases h;assumption
 ·cases h
theorem convert_run{s t:TypeId}{ks k k':IntKind}{n:Int}(hs:ikT P s=some ks)(ht:ikT P t=some k)(w:World):(convert s t (.int k' n)).run P w=(Conv.intToInt k n).run P w:=by
 simp[convert,Sem.run_bind,run_underlying (ikT_ok hs),run_underlying (ikT_ok ht),Result.andThen]
theorem cmpA_run{op:BinOp}{a b:Int}{r:Bool}(h:cmpA op a b=some r)(t:TypeId)(w:World):(binOp op t (.int .i64 a) (.int .i64 b)).run P w= .ok (.bool r) w:=by
 cases op<;>simp only[cmpA,Option.some.injEq]at h<;>first|(cases h;done)|skip
 all_goals
  subst h
  simp[binOp,Op.intCmp,BEq.beq,bne]
theorem eqL_run: ∀(fs:List Field) (i d:Nat) (cs ds:List AV) (xs ys:Array Value) (r:Bool),
  (∀f j,fs[j]? =some f→f.name≠ "_" ∧f.offset=i+j∧aggT P f.type=some false∧P.underlying f.type=some (.int .i64))→
  (∀j v,cs[j]? =some v→ ∃c,xs[i+j]? =some c∧V κ v c)→(∀j v,ds[j]? =some v→ ∃c,ys[i+j]? =some c∧V κ v c)→cs.length=fs.length→eqL cs ds=some r→
  ∀w,(Op.eqFields (d+1) xs ys fs).run P w= .ok r w
 |[],i,d,[],[],xs,ys,r,_,_,_,_,h,w=>by simp only[eqL,Option.some.injEq]at h;subst h;simp[Op.eqFields]
 |[],i,d,[],_::_,xs,ys,r,_,_,_,_,h,w=>by simp[eqL]at h
 |[],i,d,_::_,ds,xs,ys,r,_,_,_,hl,h,w=>by simp at hl
 |f::fs,i,d,[],ds,xs,ys,r,_,_,_,hl,h,w=>by simp at hl
 |f::fs,i,d,c::cs,ds,xs,ys,r,hf,hx,hy,hl,h,w=>by
  obtain⟨f1,f2,f3,f4⟩:=hf f 0 rfl
  cases ds with
  |nil=>cases c<;>simp[eqL]at h
  |cons e ds=>
   have hce: ∃a b,c= .int .i64 a∧e= .int .i64 b:=by
    cases c<;>first|(cases e<;>simp[eqL]at h;done)|skip
    rename_i k n
    cases k<;>first|(cases e<;>simp[eqL]at h;done)|skip
    cases e<;>first|(simp[eqL]at h;done)|skip
    rename_i k' n'
    cases k'<;>first|(simp[eqL]at h;done)|skip
    exact⟨_,_,rfl,rfl⟩
   obtain⟨a,b,rfl,rfl⟩:=hce
   simp only[eqL,Option.map_eq_some_iff]at h
   obtain⟨r',h1,rfl⟩:=h
   obtain⟨c1,hc1,hv1⟩:=hx 0 _ rfl
   obtain⟨c2,hc2,hv2⟩:=hy 0 _ rfl
   obtain rfl:c1= .int .i64 a:=hv1
   obtain rfl:c2= .int .i64 b:=hv2
   have ih:=eqL_run fs (i+1) d cs ds xs ys r' (fun g j hg=>by
     obtain⟨g1,g2,g3⟩:=hf g (j+1) (by simpa using hg)
     exact⟨g1,by omega,g3⟩)
    (fun j v hv=>by have:=hx (j+1) v (by simpa using hv);rwa[show i+(j+1)=i+1+j from by omega]at this)
    (fun j v hv=>by have:=hy (j+1) v (by simpa using hv);rwa[show i+(j+1)=i+1+j from by omega]at this)
    (by simpa using hl) h1 w
   simp only[Nat.add_zero]at hc1 hc2 f2
   simp only[Op.eqFields,f1,ne_eq,not_false_eq_true,if_true,Sem.run_bind,part,run_isAgg f3,Result.andThen_ok,Bool.false_eq_true,if_false,f2,hc1,hc2,Sem.run_pure,run_equalIn_int w d f.type .i64 .i64 a b f4]
   by_cases hab:a=b
   ·simp[hab,ih]
   ·simp[hab]
theorem flatI0_ok{t:TypeId}(h:flatI0 P t=true): ∃fs,P.underlying t=some (.struct fs)∧P.stoodInHeld t=false∧P.eqGuardType P.depth t=false∧flatN0 P t=fs.size∧
  ∀f j,fs.toList[j]? =some f→f.name≠ "_" ∧f.offset=0+j∧aggT P f.type=some false∧P.underlying f.type=some (.int .i64):=by
 unfold flatI0 at h
 split at h
 ·rename_i fs hu
  simp only[Bool.and_eq_true,Bool.not_eq_true',List.all_eq_true]at h
  refine⟨fs,hu,h.1.1,h.1.2,by simp[flatN0,hu],fun f j hj=>?_⟩
  have:=h.2 (f,j) (by rw[List.mem_zipIdx_iff_getElem?];simpa using hj)
  simp only[Bool.and_eq_true,bne_iff_ne,beq_iff_eq]at this
  obtain⟨⟨⟨a1,a2⟩,a3⟩,a4⟩:=this
  refine⟨a1,by omega,a3,?_⟩
  split at a4
  ·assumption
  ·cases a4
 ·cases h
theorem eqL_split: ∀(n:Nat) (cs ds:List AV) (r:Bool),eqL cs ds=some r→ ∃r1 r2,eqL (cs.take n) (ds.take n)=some r1∧eqL (cs.drop n) (ds.drop n)=some r2∧r=(r1&&r2)
 |0,cs,ds,r,h=>⟨true,r,rfl,h,by simp⟩
 |n+1,[],[],r,h=>⟨true,r,rfl,h,by simp⟩
 |n+1,[],_::_,r,h=>by simp[eqL]at h
 |n+1,c::cs,[],r,h=>by cases c<;>simp[eqL]at h
 |n+1,c::cs,e::ds,r,h=>by
  have hce: ∃a b,c= .int .i64 a∧e= .int .i64 b:=by
   cases c<;>first|(cases e<;>simp[eqL]at h;done)|skip
   rename_i k n
   cases k<;>first|(cases e<;>simp[eqL]at h;done)|skip
   cases e<;>first|(simp[eqL]at h;done)|skip
   rename_i k' n'
   cases k'<;>first|(simp[eqL]at h;done)|skip
   exact⟨_,_,rfl,rfl⟩
  obtain⟨a,b,rfl,rfl⟩:=hce
  simp only[eqL,Option.map_eq_some_iff]at h
  obtain⟨r',h1,rfl⟩:=h
  obtain⟨r1,r2,e1,e2,e3⟩:=eqL_split n cs ds r' h1
  exact⟨decide (a=b)&&r1,r2,by simp[eqL,e1],e2,by rw[e3,Bool.and_assoc]⟩
theorem eqF_run: ∀(fs:List Field) (i d:Nat) (cs ds:List AV) (xs ys:Array Value) (r:Bool),flatF P i fs=true→
  (∀j v,cs[j]? =some v→ ∃c,xs[i+j]? =some c∧V κ v c)→(∀j v,ds[j]? =some v→ ∃c,ys[i+j]? =some c∧V κ v c)→cs.length=flatC P fs→eqL cs ds=some r→
  ∀w,(Op.eqFields (d+1+1) xs ys fs).run P w= .ok r w
 |[],i,d,cs,ds,xs,ys,r,_,_,_,hl,h,w=>by
  obtain rfl:cs=[]:=by simpa[flatC]using hl
  cases ds with
  |nil=>simp only[eqL,Option.some.injEq]at h;subst h;simp[Op.eqFields]
  |cons _ _=>simp[eqL]at h
 |f::fs,i,d,cs,ds,xs,ys,r,hf,hx,hy,hl,h,w=>by
  simp only[flatF,Bool.and_eq_true,bne_iff_ne,beq_iff_eq]at hf
  obtain⟨⟨f1,f2⟩,f3⟩:=hf
  cases ha:aggT P f.type with
  |none=>rw[ha]at f3;cases f3
  |some ag=>
   rw[ha]at f3
   simp only[flatC,ha]at hl
   cases ag with
   |false=>
    simp only[Bool.and_eq_true]at f3
    obtain⟨f4,f5⟩:=f3
    have f4:P.underlying f.type=some (.int .i64):=by
     split at f4
     ·assumption
     ·cases f4
    cases cs with
    |nil=>simp at hl;omega
    |cons c cs=>
     cases ds with
     |nil=>cases c<;>simp[eqL]at h
     |cons e ds=>
      have hce: ∃a b,c= .int .i64 a∧e= .int .i64 b:=by
       cases c<;>first|(cases e<;>simp[eqL]at h;done)|skip
       rename_i k n
       cases k<;>first|(cases e<;>simp[eqL]at h;done)|skip
       cases e<;>first|(simp[eqL]at h;done)|skip
       rename_i k' n'
       cases k'<;>first|(simp[eqL]at h;done)|skip
       exact⟨_,_,rfl,rfl⟩
      obtain⟨a,b,rfl,rfl⟩:=hce
      simp only[eqL,Option.map_eq_some_iff]at h
      obtain⟨r',h1,rfl⟩:=h
      obtain⟨c1,hc1,hv1⟩:=hx 0 _ rfl
      obtain⟨c2,hc2,hv2⟩:=hy 0 _ rfl
      obtain rfl:c1= .int .i64 a:=hv1
      obtain rfl:c2= .int .i64 b:=hv2
      have ih:=eqF_run fs (i+1) d cs ds xs ys r' f5
       (fun j v hv=>by have:=hx (j+1) v (by simpa using hv);rwa[show i+(j+1)=i+1+j from by omega]at this)
       (fun j v hv=>by have:=hy (j+1) v (by simpa using hv);rwa[show i+(j+1)=i+1+j from by omega]at this)
       (by simp at hl;omega) h1 w
      simp only[Nat.add_zero]at hc1 hc2
      simp only[Op.eqFields,f1,ne_eq,not_false_eq_true,if_true,Sem.run_bind,part,run_isAgg ha,Result.andThen_ok,Bool.false_eq_true,if_false,f2,hc1,hc2,Sem.run_pure,run_equalIn_int w (d+1) f.type .i64 .i64 a b f4]
      by_cases hab:a=b
      ·simp[hab,ih]
      ·simp[hab]
   |true=>
    simp only[Bool.and_eq_true,beq_iff_eq]at f3
    obtain⟨⟨f4,f5⟩,f6⟩:=f3
    obtain⟨gs,hu,hs,hg,hn,hall⟩:=flatI0_ok f4
    have hfo:P.underlying f.type=some (.struct (P.fieldsOf f.type)):=by simp[Program.fieldsOf,hu]
    have hfe:P.fieldsOf f.type=gs:=by simp[Program.fieldsOf,hu]
    obtain⟨r1,r2,e1,e2,rfl⟩:=eqL_split (flatN0 P f.type) cs ds r h
    have ih:=eqF_run fs (i+flatN0 P f.type) d (cs.drop (flatN0 P f.type)) (ds.drop (flatN0 P f.type)) xs ys r2 f6
     (fun j v hv=>by have:=hx (flatN0 P f.type+j) v (by simpa using hv);rwa[←Nat.add_assoc]at this)
     (fun j v hv=>by have:=hy (flatN0 P f.type+j) v (by simpa using hv);rwa[←Nat.add_assoc]at this)
     (by simp at hl ⊢;omega) e2 w
    have hsub: ∀(zs:Array Value) (us:List AV),(∀j v,us[j]? =some v→ ∃c,zs[i+j]? =some c∧V κ v c)→ ∀j v,(us.take (flatN0 P f.type))[j]? =some v→ ∃c,(zs.extract i (i+flatN0 P f.type))[0+j]? =some c∧V κ v c:=fun zs us hz j v hv=>by
     rw[getElem?_take]at hv
     split at hv
     ·rename_i hj
      obtain⟨c,c1,c2⟩:=hz j v hv
      refine⟨c,?_,c2⟩
      rw[Nat.zero_add,Array.getElem?_extract]
      have:=(Array.getElem?_eq_some_iff.1 c1).1
      rw[if_pos (by omega)]
      exact c1
     ·cases hv
    have inner:=eqL_run gs.toList 0 d (cs.take (flatN0 P f.type)) (ds.take (flatN0 P f.type)) (xs.extract i (i+flatN0 P f.type)) (ys.extract i (i+flatN0 P f.type)) r1 hall (hsub xs cs hx) (hsub ys ds hy) (by simp at hl ⊢;omega) e1 w
    simp only[Op.eqFields,f1,ne_eq,not_false_eq_true,if_true,Sem.run_bind,part,run_isAgg ha,Result.andThen_ok,f2,run_sizeOf f5,Sem.run_pure,run_equalIn_struct w (d+1) f.type _ _ hfo hs,hfe,inner]
    cases r1
    ·simp
    ·simp[ih]
theorem flatI_ok{t:TypeId}(h:flatI P t=true): ∃fs,P.underlying t=some (.struct fs)∧P.stoodInHeld t=false∧P.eqGuardType P.depth t=false∧flatN P t=flatC P fs.toList∧flatF P 0 fs.toList=true:=by
 unfold flatI at h
 split at h
 ·rename_i fs hu
  simp only[Bool.and_eq_true,Bool.not_eq_true']at h
  exact⟨fs,hu,h.1.1,h.1.2,by simp[flatN,hu],h.2⟩
 ·cases h
theorem run_equalIn_func_nil(w:World)(d:Nat)(t:TypeId)(f:Fn)(a c:Array Value)(h:funcT P t=true):(Op.equalIn (d+1) t (.func f a c) .nilFunc).run P w= .ok false w:=by
 obtain⟨q1,q2,q3,hu⟩: ∃q1 q2 q3,P.underlying t=some (.func q1 q2 q3):=by unfold funcT at h;split at h<;>simp_all
 simp[Op.equalIn,run_underlying hu]
theorem run_equalIn_nil_nil(w:World)(d:Nat)(t:TypeId)(h:funcT P t=true):(Op.equalIn (d+1) t .nilFunc .nilFunc).run P w= .ok true w:=by
 obtain⟨q1,q2,q3,hu⟩: ∃q1 q2 q3,P.underlying t=some (.func q1 q2 q3):=by unfold funcT at h;split at h<;>simp_all
 simp[Op.equalIn,run_underlying hu]
theorem run_fn_nil(w:World)(t:TypeId)(f:Fn)(a c:Array Value)(h:funcT P t=true)(ox oy:Operand):
  (do eqGuard .eql t ox oy (.func f a c) .nilFunc;binOp .eql t (.func f a c) .nilFunc:Sem Value).run P w= .ok (.bool false) w∧(do eqGuard .neq t ox oy (.func f a c) .nilFunc;binOp .neq t (.func f a c) .nilFunc:Sem Value).run P w= .ok (.bool true) w:=by
 have h1:=run_equalIn_func_nil w 9999 t f a c h
 constructor<;>(simp only[eqGuard_at_func,binOp,Op.equal,Op.maxDepth];simp[Sem.run_bind,Result.andThen,h1])
theorem run_nil_nil(w:World)(t:TypeId)(h:funcT P t=true)(ox oy:Operand):
  (do eqGuard .eql t ox oy .nilFunc .nilFunc;binOp .eql t .nilFunc .nilFunc:Sem Value).run P w= .ok (.bool true) w∧(do eqGuard .neq t ox oy .nilFunc .nilFunc;binOp .neq t .nilFunc .nilFunc:Sem Value).run P w= .ok (.bool false) w:=by
 have h1:=run_equalIn_nil_nil w 9999 t h
 constructor<;>(simp only[eqGuard_at_nilFunc,binOp,Op.equal,Op.maxDepth];simp[Sem.run_bind,Result.andThen,h1])
theorem eqA0_run{e:TypeId}(he:P.underlying e=some (.int .i64))(ha:aggT P e=some false): ∀(n i d:Nat) (cs ds:List AV) (xs ys:Array Value) (r:Bool),
  (∀j v,cs[j]? =some v→ ∃c,xs[i+j]? =some c∧V κ v c)→(∀j v,ds[j]? =some v→ ∃c,ys[i+j]? =some c∧V κ v c)→cs.length=n→eqL cs ds=some r→
  ∀w,(Op.eqItems (d+1) e 1 xs ys (List.range' i n)).run P w= .ok r w
 |0,i,d,cs,ds,xs,ys,r,_,_,hl,h,w=>by
  obtain rfl:cs=[]:=eq_nil_of_length_eq_zero hl
  cases ds with
  |nil=>simp only[eqL,Option.some.injEq]at h;subst h;simp[Op.eqItems]
  |cons _ _=>simp[eqL]at h
 |n+1,i,d,[],ds,xs,ys,r,_,_,hl,h,w=>by simp at hl
 |n+1,i,d,c::cs,ds,xs,ys,r,hx,hy,hl,h,w=>by
  cases ds with
  |nil=>cases c<;>simp[eqL]at h
  |cons e' ds=>
   have hce: ∃a b,c= .int .i64 a∧e'= .int .i64 b:=by
    cases c<;>first|(cases e'<;>simp[eqL]at h;done)|skip
    rename_i k n
    cases k<;>first|(cases e'<;>simp[eqL]at h;done)|skip
    cases e'<;>first|(simp[eqL]at h;done)|skip
    rename_i k' n'
    cases k'<;>first|(simp[eqL]at h;done)|skip
    exact⟨_,_,rfl,rfl⟩
   obtain⟨a,b,rfl,rfl⟩:=hce
   simp only[eqL,Option.map_eq_some_iff]at h
   obtain⟨r',h1,rfl⟩:=h
   obtain⟨c1,hc1,hv1⟩:=hx 0 _ rfl
   obtain⟨c2,hc2,hv2⟩:=hy 0 _ rfl
   obtain rfl:c1= .int .i64 a:=hv1
   obtain rfl:c2= .int .i64 b:=hv2
   have ih:=eqA0_run he ha n (i+1) d cs ds xs ys r'
    (fun j v hv=>by have:=hx (j+1) v (by simpa using hv);rwa[show i+(j+1)=i+1+j from by omega]at this)
    (fun j v hv=>by have:=hy (j+1) v (by simpa using hv);rwa[show i+(j+1)=i+1+j from by omega]at this)
    (by simpa using hl) h1 w
   simp only[Nat.add_zero]at hc1 hc2
   simp only[List.range'_succ,Op.eqItems,Nat.mul_one,Sem.run_bind,part,run_isAgg ha,Result.andThen_ok,Bool.false_eq_true,if_false,hc1,hc2,Sem.run_pure,run_equalIn_int w d e .i64 .i64 a b he]
   by_cases hab:a=b
   ·simp[hab,ih]
   ·simp[hab]
theorem arrI0_ok{t:TypeId}(h:arrI0 P t=true): ∃e,P.underlying t=some (.array (arrN0 P t) e)∧aggT P e=some false∧szT P e=some 1∧P.underlying e=some (.int .i64):=by
 unfold arrI0 at h
 split at h
 ·rename_i n e hu
  simp only[Bool.and_eq_true,beq_iff_eq]at h
  refine⟨e,by simp[arrN0,hu],h.1.1,h.1.2,?_⟩
  have:=h.2
  split at this
  ·assumption
  ·cases this
 ·cases h
theorem szT_cells{t:TypeId}{n:Nat}(h:szT P t=some n): ∃i,P.info? t=some i∧P.cellsOf t=n:=by
 obtain⟨i,h1,h2⟩:=Option.map_eq_some_iff.1 h
 exact⟨i,h1,by simp[Program.cellsOf,h1,h2]⟩
theorem eqA_run{e:TypeId}(he:arrI0 P e=true)(ha:aggT P e=some true)(hz:szT P e=some (arrN0 P e)): ∀(n i d:Nat) (cs ds:List AV) (xs ys:Array Value) (r:Bool),
  (∀j v,cs[j]? =some v→ ∃c,xs[i*arrN0 P e+j]? =some c∧V κ v c)→(∀j v,ds[j]? =some v→ ∃c,ys[i*arrN0 P e+j]? =some c∧V κ v c)→cs.length=n*arrN0 P e→eqL cs ds=some r→
  ∀w,(Op.eqItems (d+1+1) e (arrN0 P e) xs ys (List.range' i n)).run P w= .ok r w
 |0,i,d,cs,ds,xs,ys,r,_,_,hl,h,w=>by
  obtain rfl:cs=[]:=eq_nil_of_length_eq_zero (by simpa using hl)
  cases ds with
  |nil=>simp only[eqL,Option.some.injEq]at h;subst h;simp[Op.eqItems]
  |cons _ _=>simp[eqL]at h
 |n+1,i,d,cs,ds,xs,ys,r,hx,hy,hl,h,w=>by
  obtain⟨e2,g1,g2,g3,g4⟩:=arrI0_ok he
  obtain⟨inf,g5,g6⟩:=szT_cells g3
  obtain⟨r1,r2,e1,e2',rfl⟩:=eqL_split (arrN0 P e) cs ds r h
  rw[Nat.add_mul,Nat.one_mul]at hl
  have ih:=eqA_run he ha hz n (i+1) d (cs.drop (arrN0 P e)) (ds.drop (arrN0 P e)) xs ys r2
   (fun j v hv=>by have:=hx (arrN0 P e+j) v (by simpa using hv);rwa[show(i+1)*arrN0 P e+j=i*arrN0 P e+(arrN0 P e+j)from by rw[Nat.add_mul];omega])
   (fun j v hv=>by have:=hy (arrN0 P e+j) v (by simpa using hv);rwa[show(i+1)*arrN0 P e+j=i*arrN0 P e+(arrN0 P e+j)from by rw[Nat.add_mul];omega])
   (by simp;omega) e2' w
  have hsub: ∀(zs:Array Value) (us:List AV),(∀j v,us[j]? =some v→ ∃c,zs[i*arrN0 P e+j]? =some c∧V κ v c)→ ∀j v,(us.take (arrN0 P e))[j]? =some v→ ∃c,(zs.extract (i*arrN0 P e) (i*arrN0 P e+arrN0 P e))[0+j]? =some c∧V κ v c:=by
   intro zs us hz j v hv
   rw[getElem?_take]at hv
   split at hv
   ·rename_i hj
    obtain⟨c,c1,c2⟩:=hz j v hv
    refine⟨c,?_,c2⟩
    rw[Nat.zero_add,Array.getElem?_extract]
    have:=(Array.getElem?_eq_some_iff.1 c1).1
    rw[if_pos (by omega)]
    exact c1
   ·cases hv
  have inner:=eqA0_run g4 g2 (arrN0 P e) 0 d (cs.take (arrN0 P e)) (ds.take (arrN0 P e)) (xs.extract (i*arrN0 P e) (i*arrN0 P e+arrN0 P e)) (ys.extract (i*arrN0 P e) (i*arrN0 P e+arrN0 P e)) r1 (hsub xs cs hx) (hsub ys ds hy) (by simp;omega) e1 w
  have hEq:=run_equalIn_array w (d+1) (xs.extract (i*arrN0 P e) (i*arrN0 P e+arrN0 P e)) (ys.extract (i*arrN0 P e) (i*arrN0 P e+arrN0 P e)) g1 g5
  rw[g6,range_eq_range',inner]at hEq
  simp only[List.range'_succ,Op.eqItems,Sem.run_bind,part,run_isAgg ha,Result.andThen_ok,if_true,run_sizeOf hz,Sem.run_pure,hEq]
  cases r1
  ·simp
  ·simp[ih]
theorem arrI_ok{t:TypeId}(h:arrI P t=true): ∃n e,P.underlying t=some (.array n e)∧P.eqGuardType P.depth t=false∧aggT P e=some true∧szT P e=some (arrN0 P e)∧arrI0 P e=true∧arrN P t=n*arrN0 P e:=by
 unfold arrI at h
 split at h
 ·rename_i n e hu
  simp only[Bool.and_eq_true,Bool.not_eq_true',beq_iff_eq]at h
  exact⟨n,e,hu,h.1.1.1,h.1.1.2,h.1.2,h.2,by simp[arrN,hu]⟩
 ·cases h
theorem aggEq_ok(hc:Conc κ){op:BinOp}{t:TypeId}{x y:AV}{cx cy:Value}{p:Prop}{v:AV}{H':Heap}(hx:V κ x cx)(hy:V κ y cy)(h:aggEq P κ.H op t x y= .ok p v H')(ox oy:Operand):
  ValOk P κ (do eqGuard op t ox oy cx cy;binOp op t cx cy) v H':=by
 have main: ∀(cs ds:List AV) (r:Bool),x= .agg cs→y= .agg ds→(flatI P t=true∧cs.length=flatN P t∨arrI P t=true∧cs.length=arrN P t)→eqL cs ds=some r→
   ∃xs ys,cx= .agg xs∧cy= .agg ys∧(Op.equalIn 10000 t cx cy).run P κ.w= .ok r κ.w∧ ∀op,(eqGuard op t ox oy cx cy).run P κ.w= .ok () κ.w:=by
  intro cs ds r e1 e2 hf hr
  subst e1;subst e2
  obtain⟨xs,e1,hl1⟩:=hx
  obtain⟨ys,e2,hl2⟩:=hy
  subst e1;subst e2
  rcases hf with hf|hf
  case inr=>
   obtain⟨n,e,hu,hg,ha,hz,hi,hn⟩:=arrI_ok hf.1
   obtain⟨inf,g5,g6⟩:=szT_cells hz
   refine⟨xs,ys,rfl,rfl,?_,fun op=>run_eqGuard_agg κ.w op t ox oy xs ys hg⟩
   have hEq:=run_equalIn_array κ.w 9999 xs ys hu g5
   rw[show(10000:Nat)=9999+1 from rfl,hEq,g6,range_eq_range']
   exact eqA_run hi ha hz n 0 9997 cs ds xs ys r (fun j u hu=>by
    obtain⟨c,h1,h2⟩:=hl1.get j u hu
    exact⟨c,by simpa using h1,h2⟩) (fun j u hu=>by
    obtain⟨c,h1,h2⟩:=hl2.get j u hu
    exact⟨c,by simpa using h1,h2⟩) (by rw[hf.2,hn]) hr κ.w
  obtain⟨fs,hu,hs,hg,hn,hall⟩:=flatI_ok hf.1
  have hfo:P.underlying t=some (.struct (P.fieldsOf t)):=by simp[Program.fieldsOf,hu]
  have hfe:P.fieldsOf t=fs:=by simp[Program.fieldsOf,hu]
  refine⟨xs,ys,rfl,rfl,?_,fun op=>run_eqGuard_agg κ.w op t ox oy xs ys hg⟩
  rw[show(10000:Nat)=9997+1+1+1 from rfl,run_equalIn_struct κ.w _ t xs ys hfo hs,hfe]
  exact eqF_run fs.toList 0 9997 cs ds xs ys r hall (fun j u hu=>by
    obtain⟨c,h1,h2⟩:=hl1.get j u hu
    exact⟨c,by simpa using h1,h2⟩) (fun j u hu=>by
    obtain⟨c,h1,h2⟩:=hl2.get j u hu
    exact⟨c,by simpa using h1,h2⟩) (by simp[hf.2,hn]) hr κ.w
 unfold aggEq at h
 split at h
 ·split at h
  ·rename_i cs ds hf
   obtain⟨h1,_,rfl⟩:=ofO_ok h
   obtain⟨r,h2,rfl⟩:=Option.map_eq_some_iff.1 h1
   obtain⟨xs,ys,rfl,rfl,h3,h4⟩:=main _ _ r rfl rfl hf h2
   exact .same hc (by simp[Sem.run_bind,Result.andThen,h4,run_eql_struct,h3]) rfl
  ·cases h
 ·split at h
  ·rename_i cs ds hf
   obtain⟨h1,_,rfl⟩:=ofO_ok h
   obtain⟨r,h2,rfl⟩:=Option.map_eq_some_iff.1 h1
   obtain⟨xs,ys,rfl,rfl,h3,h4⟩:=main _ _ r rfl rfl hf h2
   exact .same hc (by simp[Sem.run_bind,Result.andThen,h4,run_neq_struct,h3]) rfl
  ·cases h
 ·rename_i a b
  obtain rfl:cx= .bool a:=hx
  obtain rfl:cy= .bool b:=hy
  split at h
  ·rename_i hb
   simp only[Res.ok.injEq]at h
   obtain⟨_,rfl,rfl⟩:=h
   have hu:P.underlying t=some .bool:=by unfold boolT at hb;split at hb<;>simp_all
   exact .same hc (by simp[Sem.run_bind,Result.andThen,eqGuard,binOp,Op.equal,Op.maxDepth,run_equalIn_bool' κ.w 9999 t a b hu]) rfl
  ·cases h
 ·rename_i a b
  obtain rfl:cx= .bool a:=hx
  obtain rfl:cy= .bool b:=hy
  split at h
  ·rename_i hb
   simp only[Res.ok.injEq]at h
   obtain⟨_,rfl,rfl⟩:=h
   have hu:P.underlying t=some .bool:=by unfold boolT at hb;split at hb<;>simp_all
   exact .same hc (by simp[Sem.run_bind,Result.andThen,eqGuard,binOp,Op.equal,Op.maxDepth,run_equalIn_bool' κ.w 9999 t a b hu]) rfl
  ·cases h
 ·rename_i g caps
  obtain⟨a,rfl,_⟩:=hx
  obtain rfl:cy= .nilFunc:=hy
  split at h
  ·rename_i hb
   simp only[Res.ok.injEq]at h
   obtain⟨_,rfl,rfl⟩:=h
   exact .same hc (run_fn_nil κ.w t _ _ _ hb ox oy).1 rfl
  ·cases h
 ·rename_i g caps
  obtain⟨a,rfl,_⟩:=hx
  obtain rfl:cy= .nilFunc:=hy
  split at h
  ·rename_i hb
   simp only[Res.ok.injEq]at h
   obtain⟨_,rfl,rfl⟩:=h
   exact .same hc (run_fn_nil κ.w t _ _ _ hb ox oy).2 rfl
  ·cases h
 ·obtain rfl:cx= .nilFunc:=hx
  obtain rfl:cy= .nilFunc:=hy
  split at h
  ·rename_i hb
   simp only[Res.ok.injEq]at h
   obtain⟨_,rfl,rfl⟩:=h
   exact .same hc (run_nil_nil κ.w t hb ox oy).1 rfl
  ·cases h
 ·obtain rfl:cx= .nilFunc:=hx
  obtain rfl:cy= .nilFunc:=hy
  split at h
  ·rename_i hb
   simp only[Res.ok.injEq]at h
   obtain⟨_,rfl,rfl⟩:=h
   exact .same hc (run_nil_nil κ.w t hb ox oy).2 rfl
  ·cases h
 ·cases h
theorem wrap_u8{n:Int}(h:0≤n)(h2:n<256):IntKind.u8.wrap n=n:=by
 simp only[IntKind.wrap,IntKind.bits,IntKind.signed]
 simp;omega
theorem cmp8_ok{op:BinOp}{a b:Int}{r:Bool}(h:cmpA op a b=some r)(t:TypeId)(w:World):(binOp op t (.int .u8 a) (.int .u8 b)).run P w= .ok (.bool r) w∧ ∀t x y,(eqGuard op t x y (.int .u8 a) (.int .u8 b)).run P w= .ok () w:=by
 cases op<;>simp only[cmpA,Option.some.injEq]at h<;>first|(cases h;done)|skip
 all_goals subst h
 all_goals exact⟨by simp[binOp,Op.intCmp]<;>(by_cases e:a=b<;>simp[e]),fun t x y=>by simp[eqGuard]⟩
theorem bytes_toList(a:List UInt8):(ByteArray.mk a.toArray).toList=a:=by rw[ByteArray.toList_eq]
theorem str_add(a b:List UInt8)(h:((a.length+b.length:Nat):Int)≤9223372036854775807)(t:TypeId)(ox oy:Operand)(w:World):
  ((do eqGuard .add t ox oy (.string ⟨a.toArray⟩) (.string ⟨b.toArray⟩);binOp .add t (.string ⟨a.toArray⟩) (.string ⟨b.toArray⟩):Sem Value).run P w= .ok (.string ⟨(a++b).toArray⟩) w):=by
 have e:(ByteArray.mk a.toArray)++(ByteArray.mk b.toArray)=ByteArray.mk (a++b).toArray:=by
  apply ByteArray.ext;simp
 have h2: ¬((((ByteArray.mk a.toArray).size+(ByteArray.mk b.toArray).size:Nat):Int) > 9223372036854775807):=by
  simp only[ByteArray.size,size_toArray];omega
 simp only[Sem.run_bind,eqGuard,binOp,Op.stringOp]
 simp[Sem.run_bind,Result.andThen,e]
 omega
theorem str_eql(a b:List UInt8)(t:TypeId)(ox oy:Operand)(w:World):
  ((do eqGuard .eql t ox oy (.string ⟨a.toArray⟩) (.string ⟨b.toArray⟩);binOp .eql t (.string ⟨a.toArray⟩) (.string ⟨b.toArray⟩):Sem Value).run P w= .ok (.bool (decide (a=b))) w)∧
  ((do eqGuard .neq t ox oy (.string ⟨a.toArray⟩) (.string ⟨b.toArray⟩);binOp .neq t (.string ⟨a.toArray⟩) (.string ⟨b.toArray⟩):Sem Value).run P w= .ok (.bool (!decide (a=b))) w):=by
 have e:(a == b)=decide (a=b):=by by_cases h:a=b<;>simp[h]
 constructor
 ·simp[Sem.run_bind,Result.andThen,eqGuard,binOp,Op.stringOp,bytes_toList,e]
 ·simp[Sem.run_bind,Result.andThen,eqGuard,binOp,Op.stringOp,bytes_toList,e]
theorem binA_ok(hc:Conc κ){op:BinOp}{t:TypeId}{x y:AV}{cx cy:Value}{p:Prop}{v:AV}(hx:V κ x cx)(hy:V κ y cy)(h:binA op x y=some (p,v))(hp:p)(ox oy:Operand):
  ValOk P κ (do eqGuard op t ox oy cx cy;binOp op t cx cy) v κ.H:=by
 unfold binA at h
 split at h
 ·rename_i a b
  obtain rfl:cx= .int .i64 a:=hx
  obtain rfl:cy= .int .i64 b:=hy
  split at h
  ·rename_i r hr
   simp only[Option.some.injEq,Prod.mk.injEq]at h
   obtain⟨rfl,rfl⟩:=h
   exact .same hc (by simp[Sem.run_bind,(cmpA_ok (P:=P) hr κ.w).2,Result.andThen,cmpA_run hr]) rfl
  ·rename_i hn
   split at h
   ·rename_i q n ha
    simp only[Option.some.injEq,Prod.mk.injEq]at h
    obtain⟨rfl,rfl⟩:=h
    have:=arA_ok (P:=P) hn ha hp t κ.w
    exact .same hc (by simp[Sem.run_bind,this.2,Result.andThen,this.1]) rfl
   ·cases h
 ·rename_i a b
  obtain rfl:cx= .int .u64 a:=hx
  obtain rfl:cy= .int .u64 b:=hy
  split at h
  ·rename_i r hr
   simp only[Option.some.injEq,Prod.mk.injEq]at h
   obtain⟨rfl,rfl⟩:=h
   have:=cmpU_ok (P:=P) hr t κ.w
   exact .same hc (by simp[Sem.run_bind,this.2,Result.andThen,this.1]) rfl
  ·rename_i hn
   split at h
   ·rename_i q n ha
    simp only[Option.some.injEq,Prod.mk.injEq]at h
    obtain⟨rfl,rfl⟩:=h
    have:=arU_ok (P:=P) hn ha hp t κ.w
    exact .same hc (by simp[Sem.run_bind,this.2,Result.andThen,this.1]) rfl
   ·cases h
 ·rename_i a b
  obtain rfl:cx= .int .u64 a:=hx
  obtain rfl:cy= .int .i64 b:=hy
  split at h
  ·rename_i q n ha
   simp only[Option.some.injEq,Prod.mk.injEq]at h
   obtain⟨rfl,rfl⟩:=h
   have:=shU_ok (P:=P) (k:= .i64) ha hp t κ.w
   exact .same hc (by simp[Sem.run_bind,this.2,Result.andThen,this.1]) rfl
  ·cases h
 ·rename_i a b
  obtain rfl:cx= .int .u8 a:=hx
  obtain rfl:cy= .int .u8 b:=hy
  split at h
  ·rename_i r hr
   simp only[Option.some.injEq,Prod.mk.injEq]at h
   obtain⟨rfl,rfl⟩:=h
   have:=cmp8_ok (P:=P) hr t κ.w
   exact .same hc (by simp[Sem.run_bind,this.2,Result.andThen,this.1]) rfl
  ·split at h
   ·simp only[Option.some.injEq,Prod.mk.injEq]at h
    obtain⟨rfl,rfl⟩:=h
    exact .same hc (c:= .int .u8 (a-b)) (by simp[Sem.run_bind,Result.andThen,eqGuard,binOp,Op.intArith,wrap_u8 hp.1 hp.2]) rfl
   ·cases h
 ·rename_i a b
  obtain rfl:cx= .string ⟨a.toArray⟩:=hx
  obtain rfl:cy= .string ⟨b.toArray⟩:=hy
  split at h
  ·simp only[Option.some.injEq,Prod.mk.injEq]at h
   obtain⟨rfl,rfl⟩:=h
   exact .same hc (str_add a b hp t ox oy κ.w) rfl
  ·simp only[Option.some.injEq,Prod.mk.injEq]at h
   obtain⟨rfl,rfl⟩:=h
   exact .same hc (str_eql a b t ox oy κ.w).1 rfl
  ·simp only[Option.some.injEq,Prod.mk.injEq]at h
   obtain⟨rfl,rfl⟩:=h
   exact .same hc (str_eql a b t ox oy κ.w).2 rfl
  ·cases h
 ·cases h
end
section
variable {P:Program} {κ:Cx}
theorem fldT_ok{s:TypeId}{f o:Nat}{t:TypeId}(h:fldT P s f=some (o,t)): ∃fs fd n,P.underlying s=some (.struct fs)∧fs[f]? =some fd∧fd.offset=o∧fd.type=t∧szT P t=some (n+1):=by
 unfold fldT at h
 split at h
 ·rename_i fs hu
  split at h
  ·rename_i fd hf
   split at h
   ·rename_i n hn
    simp only[Option.some.injEq,Prod.mk.injEq]at h
    exact⟨fs,fd,n,hu,hf,h.1,h.2,by rw[←h.2];exact hn⟩
   ·cases h
  ·cases h
 ·cases h
theorem fieldAt_run{s:TypeId}{f o:Nat}{t:TypeId}(h:fldT P s f=some (o,t))(a:Addr)(w:World):
  (Instr.fieldAt s (.pointer (some a)) f).run P w= .ok (.pointer (some (a.add o))) w:=by
 obtain⟨fs,fd,n,h1,h2,h3,h4,h5⟩:=fldT_ok h
 subst h3;subst h4
 simp[Instr.fieldAt,Sem.run_bind,run_underlying h1,Result.andThen,h2,Instr.sureAddr,fieldPlace,run_sizeOf h5]
theorem fieldAddr_ok(hc:Conc κ){s:TypeId}{f o:Nat}{t:TypeId}(h:fldT P s f=some (o,t)){x:AV}{c:Value}(hx:V κ x c){v:AV}
  (hv:match x with| .pp cs=>v= .pp (cs.drop o)| .lp b off=>v= .lp b (off+o)| .rp b n i off=>v= .rp b n i (off+o)|_=>False):
  ValOk P κ (Instr.fieldAt s c f) v κ.H:=by
 cases x with
 |pp cs=>
  subst hv
  obtain⟨ad,rfl,hs,hp⟩:=hx
  refine .same hc (fieldAt_run h ad κ.w) ⟨_,rfl,?_,?_⟩
  ·rw[add_none hs]
  ·rw[add_none hs];exact hp.drop o cs ad hs
 |lp b off=>
  subst hv
  obtain⟨ty,cs,sl,hb,rfl⟩:=hx
  refine .same hc (fieldAt_run h _ κ.w) ⟨ty,cs,sl,hb,?_⟩
  rw[add_none rfl]
 |rp b n i off=>
  subst hv
  obtain⟨⟨A,rfl⟩,el,sz,es,sl,hb,hle,e⟩:=hx
  refine .same hc (fieldAt_run h A κ.w) ⟨⟨_,rfl⟩,el,sz,es,sl,hb,hle,fun hh=>?_⟩
  have:=e hh
  simp only[Value.pointer.injEq,Option.some.injEq]at this
  rw[this,add_none rfl]
  simp[Nat.add_assoc]
 |_=>exact hv.elim
theorem ldC_part{t:TypeId}{cs:List AV}{v:AV}{a:Array Value}{off:Nat}(hl:VL κ cs (a.toList.drop off))(h:ldC P t cs=some v):
  ∃c,(part t a off).run P κ.w= .ok c κ.w∧V κ v c:=by
 have hlen:=hl.length
 unfold ldC at h
 unfold part
 split at h
 ·rename_i n ha hz
  split at h
  ·rename_i hle
   cases h
   refine⟨.agg (a.extract off (off+n)),by simp[Sem.run_bind,run_isAgg ha,run_sizeOf hz,Result.andThen],_,rfl,?_⟩
   have:=hl.take n
   simpa[List.take_drop,Nat.add_comm]using this
  ·cases h
 ·rename_i ha
  cases cs with
  |nil=>simp at h
  |cons u us=>
   simp at h;subst h
   obtain⟨c,hc,hv⟩:=hl.get 0 u rfl
   rw[getElem?_drop]at hc
   refine⟨c,?_,hv⟩
   simp only[Nat.add_zero,Array.getElem?_toList]at hc
   simp[Sem.run_bind,run_isAgg ha,Result.andThen,hc]
 ·cases h
theorem field_ok(hc:Conc κ){s:TypeId}{f o:Nat}{t:TypeId}(h:fldT P s f=some (o,t)){cs:List AV}{c:Value}(hx:V κ (.agg cs) c){v:AV}(hv:ldC P t (cs.drop o)=some v):
  ValOk P κ (Instr.field s c f) v κ.H:=by
 obtain⟨fs,fd,n,h1,h2,h3,h4,h5⟩:=fldT_ok h
 obtain⟨a,rfl,hl⟩:=hx
 obtain⟨c,hr,hv'⟩:=ldC_part (P:=P) (hl.drop o) hv
 subst h3;subst h4
 exact .same hc (by simp[Instr.field,Sem.run_bind,run_underlying h1,Result.andThen,h2,asAgg,hr]) hv'
theorem elT_ok{t e:TypeId}{n:Nat}(h:elT P t=some (e,n)):P.underlying t=some (.slice e)∧szT P e=some n:=by
 unfold elT at h
 split at h
 ·rename_i e' hu
  obtain⟨m,h1,h2⟩:=Option.map_eq_some_iff.1 h
  simp only[Prod.mk.injEq]at h2
  obtain⟨rfl,rfl⟩:=h2
  exact⟨hu,h1⟩
 ·cases h
theorem arT_ok{t e:TypeId}{m n:Nat}(h:arT P t=some (m,e,n)):P.underlying t=some (.array m e)∧szT P e=some n:=by
 unfold arT at h
 split at h
 ·rename_i k e' hu
  obtain⟨j,h1,h2⟩:=Option.map_eq_some_iff.1 h
  simp only[Prod.mk.injEq]at h2
  obtain⟨rfl,rfl,rfl⟩:=h2
  exact⟨hu,h1⟩
 ·cases h
theorem intA_ok{x:AV}{c:Value}{n:Int}(h:intA x=some n)(hx:V κ x c):c= .int .i64 n:=by
 cases x<;>simp only[intA]at h<;>first|(cases h;done)|skip
 rename_i k m
 cases k<;>simp only[Option.some.injEq]at h<;>first|(cases h;done)|skip
 subst h;exact hx
theorem idxI_ok{x:AV}{c:Value}{n:Int}(h:idxI x=some n)(hx:V κ x c): ∃k,c= .int k n:=by
 cases x<;>simp only[idxI]at h<;>first|(cases h;done)|skip
 rename_i k m
 cases k<;>simp only[Option.some.injEq]at h<;>first|(cases h;done)|skip
 all_goals (subst h;exact⟨_,hx⟩)
theorem run_indexAt_sl{t e:TypeId}{n:Nat}(h:elT P t=some (e,n))(a:Addr)(len cap:Nat)(k:IntKind)(j:Int)(h0:0≤j)(h1:j<len)(w:World):
  (Instr.indexAt t (.slice (some a) len cap) (.int k j)).run P w= .ok (.pointer (some (a.add (j.toNat*n)))) w:=by
 obtain⟨hu,hz⟩:=elT_ok h
 simp[Instr.indexAt,asIntOf,Sem.run_bind,run_underlying hu,Result.andThen,h0,h1,run_sizeOf hz]
theorem run_indexAt_ar{t e:TypeId}{m n:Nat}(h:arT P t=some (m,e,n))(a:Addr)(k:IntKind)(j:Int)(h0:0≤j)(h1:j<m)(w:World):
  (Instr.indexAt t (.pointer (some a)) (.int k j)).run P w= .ok (.pointer (some (a.add (j.toNat*n)))) w:=by
 obtain⟨hu,hz⟩:=arT_ok h
 simp[Instr.indexAt,asIntOf,Sem.run_bind,run_underlying hu,Result.andThen,h0,h1,run_sizeOf hz,Instr.sureAddr]
theorem index_ok(hc:Conc κ){t e:TypeId}{n sz:Nat}(h:arT P t=some (n,e,sz)){cs:List AV}{c:Value}(hx:V κ (.agg cs) c){j:Int}{ki:IntKind}{ci:Value}(hi:ci= .int ki j)(h0:0≤j)(h1:j<n){v:AV}(hv:ldC P e (cs.drop (j.toNat*sz))=some v):
  ValOk P κ (Instr.index t c ci) v κ.H:=by
 subst hi
 obtain⟨hu,hz⟩:=arT_ok h
 obtain⟨a,rfl,hl⟩:=hx
 obtain⟨c,hr,hv'⟩:=ldC_part (P:=P) (hl.drop (j.toNat*sz)) hv
 exact .same hc (by simp[Instr.index,asIntOf,Sem.run_bind,run_underlying hu,Result.andThen,h0,h1,run_sizeOf hz,hr]) hv'
theorem idx_ok(hc:Conc κ){t:TypeId}{x:AV}{c ci:Value}{j:Int}(hx:V κ x c){ki:IntKind}(hi:ci= .int ki j){p:Prop}{v:AV}{H':Heap}(h:idxA P κ.H t x j= .ok p v H')(hp:p):
  ValOk P κ (Instr.indexAt t c ci) v H':=by
 subst hi
 unfold idxA at h
 split at h
 ·rename_i sz he
  split at h
  ·rename_i f sz' es
   split at h
   ·rename_i hsz
    simp only[Res.ok.injEq]at h
    obtain⟨rfl,rfl,rfl⟩:=h
    obtain⟨h0,h1⟩:=hp
    obtain⟨A,cap,rfl,hle,_,_,hA,hA0,_⟩:=hx
    cases A with
    |none=>have:=hA0 rfl;omega
    |some ad=>
     obtain⟨hs,hpe⟩:=hA ad rfl
     have hs:=hs (by omega)
     refine .same hc (run_indexAt_sl he ad _ _ ki j h0 h1 κ.w) ⟨_,rfl,?_,?_⟩
     ·rw[add_none hs]
     ·rw[add_none hs]
      have hj:j.toNat<es.length:=by omega
      have hg:es[j.toNat]? =some (es.getD j.toNat []):=by simp[hj]
      have:=PVE.get es ad j.toNat _ hs hpe hg
      subst hsz
      exact this
   ·cases h
  ·rename_i b n
   split at h
   ·rename_i el sz' es sl hb
    split at h
    ·rename_i hsz
     simp only[Res.ok.injEq]at h
     obtain⟨rfl,rfl,rfl⟩:=h
     obtain⟨h2,h0,h1⟩:=hp
     obtain⟨_,el',sz'',es',sl',hb',hle,e⟩:=hx
     rw[hb]at hb';cases hb'
     have hval:=e h2
     subst hval
     obtain⟨_,_,hnil,_⟩:=hc.blk b _ hb
     have hn:(κ.ρ b).isNil=false:=by
      cases hq:(κ.ρ b).isNil with
      |false=>rfl
      |true=>have:=(hnil hq).2;subst this;simp at h2;omega
     refine .same hc (c:= .pointer (some ⟨(κ.ρ b).blk,j.toNat*sz,none⟩)) ?_ ⟨⟨_,rfl⟩,_,_,es,_,hb,hle,fun _=>by rw[hsz];rfl⟩
     have:=run_indexAt_sl he (P:=P) ⟨(κ.ρ b).blk,0,none⟩ n (κ.ρ b).cap ki j h0 h1 κ.w
     simpa[rowVal,hn,add_none]using this
    ·cases h
   ·cases h
  ·cases h
 ·split at h
  ·rename_i m e sz ha
   split at h
   ·rename_i cs
    simp only[Res.ok.injEq]at h
    obtain⟨rfl,rfl,rfl⟩:=h
    obtain⟨h0,h1⟩:=hp
    obtain⟨ad,rfl,hs,hpv⟩:=hx
    refine .same hc (run_indexAt_ar ha ad ki j h0 h1 κ.w) ⟨_,rfl,?_,?_⟩
    ·rw[add_none hs]
    ·rw[add_none hs];exact hpv.drop _ cs ad hs
   ·rename_i b off
    split at h
    ·rename_i ty cs sl hb
     simp only[Res.ok.injEq]at h
     obtain⟨rfl,rfl,rfl⟩:=h
     obtain⟨h0,h1⟩:=hp
     obtain⟨ty',cs',sl',hb',rfl⟩:=hx
     refine .same hc (run_indexAt_ar ha _ ki j h0 h1 κ.w) ⟨ty',cs',sl',hb',?_⟩
     rw[add_none rfl]
    ·cases h
   ·cases h
  ·cases h
theorem lenA_ok{x:AV}{c:Value}{n:Int}(h:lenA x=some n)(hx:V κ x c): ∃A k cap,c= .slice A k cap∧n=k:=by
 cases x<;>simp only[lenA,Option.some.injEq]at h<;>first|(cases h;done)|skip
 ·subst h;exact⟨none,0,0,hx,rfl⟩
 ·subst h;obtain⟨A,cap,e,_⟩:=hx;exact⟨A,_,cap,e,rfl⟩
 ·subst h;obtain⟨⟨A,cap,e⟩,_⟩:=hx;exact⟨A,_,cap,e,rfl⟩
 ·subst h;obtain⟨⟨A,cap,e⟩,_⟩:=hx;exact⟨A,_,cap,e,rfl⟩
end
section
variable {P:Program} {κ:Cx}
theorem bound_run{n:Int}{y k:Nat}{code:BoundsCode}(h0:0≤n)(hk:n.toNat=k)(hy:k≤y)(w:World):(Instr.sliceBound (.int .i64 n) y code).run P w= .ok k w:=by
 have h2:n≤y:=by omega
 simp[Instr.sliceBound,asIntOf,h0,h2,hk]
theorem sb_run (len cap : Nat) (lo hi mx : Option Value) (l H M : Nat) (hl : (lo = none ∧ l = 0) ∨ ∃ n, lo = some (.int .i64 n) ∧ 0 ≤ n ∧ n.toNat = l)
    (hh : (hi = none ∧ mx = none ∧ H = len) ∨ ∃ n, hi = some (.int .i64 n) ∧ 0 ≤ n ∧ n.toNat = H) (hm : (mx = none ∧ M = cap) ∨ ∃ n, mx = some (.int .i64 n) ∧ 0 ≤ n ∧ n.toNat = M)
    (h1 : l ≤ H) (h2 : H ≤ M) (h3 : M ≤ cap) (w : World) : (Instr.sliceBounds true len cap lo hi mx).run P w = .ok (l, H, M) w := by
  unfold Instr.sliceBounds
  rcases hm with ⟨rfl, rfl⟩ | ⟨m, rfl, m0, m1⟩ <;> rcases hh with ⟨rfl, e, rfl⟩ | ⟨n, rfl, n0, n1⟩ <;> rcases hl with ⟨rfl, rfl⟩ | ⟨j, rfl, j0, j1⟩ <;>
    first
    | (cases e; done)
    | (try simp only [Sem.run_bind, Sem.run_pure, Result.andThen_ok]
       try rw [bound_run m0 m1 h3 w]
       try simp only [Sem.run_bind, Sem.run_pure, Result.andThen_ok]
       try rw [bound_run n0 n1 h2 w]
       try simp only [Sem.run_bind, Sem.run_pure, Result.andThen_ok]
       try rw [bound_run j0 j1 h1 w]
       try simp only [Sem.run_bind, Sem.run_pure, Result.andThen_ok])
theorem sb_runs (len cap : Nat) (lo hi mx : Option Value) (l H M : Nat) (hl : (lo = none ∧ l = 0) ∨ ∃ n, lo = some (.int .i64 n) ∧ 0 ≤ n ∧ n.toNat = l)
    (hh : (hi = none ∧ mx = none ∧ H = len) ∨ ∃ n, hi = some (.int .i64 n) ∧ 0 ≤ n ∧ n.toNat = H) (hm : (mx = none ∧ M = cap) ∨ ∃ n, mx = some (.int .i64 n) ∧ 0 ≤ n ∧ n.toNat = M)
    (h1 : l ≤ H) (h2 : H ≤ M) (h3 : M ≤ cap) (w : World) : (Instr.sliceBounds false len cap lo hi mx).run P w = .ok (l, H, M) w := by
  unfold Instr.sliceBounds
  rcases hm with ⟨rfl, rfl⟩ | ⟨m, rfl, m0, m1⟩ <;> rcases hh with ⟨rfl, e, rfl⟩ | ⟨n, rfl, n0, n1⟩ <;> rcases hl with ⟨rfl, rfl⟩ | ⟨j, rfl, j0, j1⟩ <;>
    first
    | (cases e; done)
    | (try simp only [Sem.run_bind, Sem.run_pure, Result.andThen_ok]
       try rw [bound_run m0 m1 h3 w]
       try simp only [Sem.run_bind, Sem.run_pure, Result.andThen_ok]
       try rw [bound_run n0 n1 h2 w]
       try simp only [Sem.run_bind, Sem.run_pure, Result.andThen_ok]
       try rw [bound_run j0 j1 h1 w]
       try simp only [Sem.run_bind, Sem.run_pure, Result.andThen_ok])
theorem sl_run{t e:TypeId}{sz:Nat}(he:elT P t=some (e,sz))(A:Option Addr)(len cap:Nat)(lo hi mx:Option Value)(l H M:Nat)(h: ∀w,(Instr.sliceBounds true len cap lo hi mx).run P w= .ok (l,H,M) w)(w:World):
  (Instr.sliceAt t (.slice A len cap) lo hi mx).run P w= .ok (.slice (if M=l then A else A.map (·.add (l*sz))) (H-l) (M-l)) w:=by
 obtain⟨hu,hz⟩:=elT_ok he
 unfold Instr.sliceAt
 simp only[Sem.run_bind,run_underlying hu,Result.andThen_ok]
 unfold Instr.slice
 simp only[Sem.run_bind,run_underlying hu,Result.andThen_ok,h,run_sizeOf hz,Sem.run_pure]
theorem lst_cut(hc:Conc κ){s:Sem Value}{f g:Bool}{sz:Nat}{es:List (List AV)}{A:Option Addr}{cap l H M:Nat}(hV:V κ (.lst f sz es) (.slice A es.length cap))(hHl:H≤es.length)(hHM:H≤M)(hlH:l≤H)(hMc:M≤cap)(hg:g=true→M=H)
  (hrun:s.run P κ.w= .ok (.slice (if M=l then A else A.map (·.add (l*sz))) (H-l) (M-l)) κ.w):ValOk P κ s (.lst g sz ((es.take H).drop l)) κ.H:=by
 obtain⟨A',cap',e1,q1,q2,q3,q4,q5,q6⟩:=hV
 simp only[Value.slice.injEq,true_and]at e1
 obtain⟨rfl,rfl⟩:=e1
 have hlen:((es.take H).drop l).length=H-l:=by rw[length_drop,length_take];omega
 refine .same hc hrun ⟨_,_,by rw[hlen],by omega,by omega,fun hgg=>?_,fun ad ha=>?_,fun ha=>?_,fun e he=>q6 e (mem_of_mem_take (mem_of_mem_drop he))⟩
 ·have:=hg hgg;omega
 ·split at ha
  ·rename_i hMl
   obtain⟨s1,s2⟩:=q4 ad ha
   have:(es.take H).drop l=[]:=eq_nil_of_length_eq_zero (by omega)
   rw[this];exact⟨fun hne=>absurd hne (by omega),trivial⟩
  ·obtain⟨ad0,rfl,rfl⟩:=Option.map_eq_some_iff.1 ha
   obtain⟨s1,s2⟩:=q4 ad0 rfl
   have s1:=s1 (by omega)
   rw[add_none s1]
   exact⟨fun _=>rfl,(s2.take H).drop l _ _ s1⟩
 ·split at ha
  ·rename_i hMl;omega
  ·have:A=none:=by simpa using ha
   have:=q5 this
   omega
theorem sli_ok(hc:Conc κ){t e:TypeId}{sz:Nat}(he:elT P t=some (e,sz)){x:AV}{c:Value}{env:Env}{ρv:Operand→Value}(hρ:Rho κ env ρv){lo hi mx:Option Operand}{l:Int}{h m:Option Int}
  (hl:intO env 0 lo=some l) (hh:intOO env hi=some h) (hm:intOO env mx=some m) (hx:V κ x c) {p:Prop} {v:AV} {H':Heap} (hr:sliA κ.H sz x l h m= .ok p v H') (hp:p):
  ValOk P κ (Instr.sliceAt t c (lo.map ρv) (hi.map ρv) (mx.map ρv)) v H':=by
 have hlo: ∀k:Nat,0≤l→l.toNat=k→(lo.map ρv=none∧k=0)∨ ∃n,lo.map ρv=some (.int .i64 n)∧0≤n∧n.toNat=k:=by
  intro k h0 hk
  cases lo with
  |none=>simp only[intO,Option.some.injEq]at hl;subst hl;exact .inl ⟨rfl,by simpa using hk.symm⟩
  |some y=>exact .inr ⟨l,by simp[intA_ok hl (hρ.ev y)],h0,hk⟩
 have opt: ∀{o:Option Operand} {r:Option Int},intOO env o=some r→(r=none→o.map ρv=none)∧(∀n,r=some n→o.map ρv=some (.int .i64 n)):=by
  intro o r hr
  cases o with
  |none=>simp only[intOO,Option.some.injEq]at hr;subst hr;exact⟨(fun _=>rfl),(fun n e=>by cases e)⟩
  |some y=>
   obtain⟨n,h1,h2⟩:=Option.map_eq_some_iff.1 hr
   subst h2
   exact⟨(fun e=>by cases e),(fun n' e=>by cases e;simp[intA_ok h1 (hρ.ev y)])⟩
 have hhi:=opt hh
 have hmx:=opt hm
 cases x with
 |lst f sz' es=>
  cases h with
  |none=>
   cases m with
   |none=>
    simp only[sliA]at hr
    split at hr
    ·rename_i hsz
     subst hsz
     simp only[Res.ok.injEq]at hr
     obtain⟨rfl,rfl,rfl⟩:=hr
     obtain⟨A,cap,rfl,q1,q2,q3,q4⟩:=id hx
     have:=lst_cut (P:=P) (g:=f) hc hx (Nat.le_refl _) q1 (by omega) (Nat.le_refl _) q3 (sl_run he A es.length cap _ _ _ l.toNat es.length cap (sb_run _ _ _ _ _ _ _ _ (hlo _ hp.1 rfl) (.inl ⟨hhi.1 rfl,hmx.1 rfl,rfl⟩) (.inl ⟨hmx.1 rfl,rfl⟩) (by omega) q1 (Nat.le_refl _)) κ.w)
     rwa[take_of_length_le (Nat.le_refl _)]at this
    ·cases hr
   |some mm=>simp only[sliA]at hr;cases hr
  |some hh'=>
   cases m with
   |none=>
    simp only[sliA]at hr
    split at hr
    ·rename_i hsz
     subst hsz
     simp only[Res.ok.injEq]at hr
     obtain⟨rfl,rfl,rfl⟩:=hr
     obtain⟨A,cap,rfl,q1,q2,q3,q4⟩:=id hx
     obtain⟨p1,p2,p3⟩:=hp
     exact lst_cut (P:=P) (g:=false) hc hx (by omega) (by omega) (by omega) (Nat.le_refl _) (fun e=>by cases e) (sl_run he A es.length cap _ _ _ l.toNat hh'.toNat cap (sb_run _ _ _ _ _ _ _ _ (hlo _ p1 rfl) (.inr ⟨_,hhi.2 _ rfl,by omega,rfl⟩) (.inl ⟨hmx.1 rfl,rfl⟩) (by omega) (by omega) (Nat.le_refl _)) κ.w)
    ·cases hr
   |some mm=>
    simp only[sliA]at hr
    split at hr
    ·rename_i hsz
     subst hsz
     simp only[Res.ok.injEq]at hr
     obtain⟨rfl,rfl,rfl⟩:=hr
     obtain⟨A,cap,rfl,q1,q2,q3,q4⟩:=id hx
     obtain⟨p1,p2,p3,p4⟩:=hp
     exact lst_cut (P:=P) (g:=decide (hh'=mm)) hc hx (by omega) (by omega) (by omega) (by omega) (fun e=>by simp at e;omega) (sl_run he A es.length cap _ _ _ l.toNat hh'.toNat mm.toNat (sb_run _ _ _ _ _ _ _ _ (hlo _ p1 rfl) (.inr ⟨_,hhi.2 _ rfl,by omega,rfl⟩) (.inr ⟨_,hmx.2 _ rfl,by omega,rfl⟩) (by omega) (by omega) (by omega)) κ.w)
    ·cases hr
 |rg b n g=>
  cases h with
  |none=>cases m<;>simp only[sliA]at hr<;>cases hr
  |some hh'=>
   cases m with
   |some mm=>simp only[sliA]at hr;cases hr
   |none=>
    simp only[sliA]at hr
    split at hr
    ·rename_i el sz' es g' hb
     split at hr
     ·rename_i hsz
      subst hsz
      simp only[Res.ok.injEq]at hr
      obtain⟨rfl,rfl,rfl⟩:=hr
      obtain⟨rfl,rfl,p3,p4⟩:=hp
      obtain⟨_,el2,sz2,es2,g2,hb',hle,e⟩:=hx
      rw[hb]at hb';cases hb'
      obtain⟨hle2,rfl⟩:=e rfl
      obtain⟨hsz,hes,hnil,hrow⟩:=hc.blk b _ hb
      have hcap:n≤(κ.ρ b).cap:=by
       cases hn:(κ.ρ b).isNil with
       |true=>rw[(hnil hn).2]at hle2;simp at hle2;omega
       |false=>obtain⟨⟨_,_,_,a3,_⟩,_⟩:=hrow hn;omega
      have hrun:=sl_run he (if(κ.ρ b).isNil then(κ.ρ b).adr else some ⟨(κ.ρ b).blk,0,none⟩) n (κ.ρ b).cap (lo.map ρv) (hi.map ρv) (mx.map ρv) 0 hh'.toNat (κ.ρ b).cap (sb_run _ _ _ _ _ _ _ _ (hlo _ (by omega) (by simp)) (.inr ⟨_,hhi.2 _ rfl,p3,rfl⟩) (.inl ⟨hmx.1 rfl,rfl⟩) (by omega) (by omega) (Nat.le_refl _)) κ.w
      refine .same hc (c:=rowVal (κ.ρ b) hh'.toNat) ?_ ⟨⟨_,_,rfl⟩,_,_,_,_,hb,Nat.le_refl _,fun _=>⟨by omega,rfl⟩⟩
      simp only[rowVal,Nat.sub_zero]at hrun ⊢
      rw[hrun]
      congr 2
      split
      ·rfl
      ·rename_i hz
       cases hn:(κ.ρ b).isNil with
       |true=>exact absurd (hnil hn).1 hz
       |false=>simp[add_none]
     ·cases hr
    ·cases hr
 |_=>cases h<;>cases m<;>simp only[sliA]at hr<;>cases hr
end
section
variable {P:Program} {κ:Cx}
theorem foldl_set(off:Nat): ∀(vs:List Value) (i:Nat) (cs:Array Value),off+i+vs.length≤cs.size→
  ((vs.zipIdx i).foldl (fun(cs:Array Value) (x:Value×Nat)=>cs.setIfInBounds (off+x.2) x.1) cs).toList=cs.toList.take (off+i)++vs++cs.toList.drop (off+i+vs.length)
 |[],i,cs,_=>by simp
 |v::vs,i,cs,h=>by
  simp only[length_cons]at h
  rw[List.zipIdx_cons,List.foldl_cons,foldl_set off vs (i+1) _ (by simp;omega)]
  simp only[Array.toList_setIfInBounds,length_cons]
  have hlt:off+i<cs.toList.length:=by simp;omega
  apply ext_getElem?
  intro j
  simp only[List.getElem?_append,getElem?_take,getElem?_drop,getElem?_set,length_append,length_take,length_set,length_cons,Array.length_toList]
  by_cases h1:j<off+i
  ·rw[if_pos (by omega),if_pos (by omega),if_pos (by omega),if_neg (by omega),if_pos (by omega),if_pos (by omega),if_pos (by omega)]
  ·by_cases h2:j=off+i
   ·subst h2
    rw[if_pos (by omega),if_pos (by omega),if_pos (by omega),if_pos (by omega),if_pos (by first|omega|(simp;omega)),if_pos (by omega),if_neg (by omega)]
    simp[show off+i-min (off+i) cs.size=0 from by omega]
   ·by_cases h3:j<off+i+1+vs.length
    ·rw[if_pos (by omega),if_neg (by omega),if_pos (by omega),if_neg (by omega)]
     rw[show j-min (off+i) cs.size=(j-min (off+(i+1)) cs.size)+1 from by omega,List.getElem?_cons_succ]
    ·rw[if_neg (by omega),if_neg (by omega),if_neg (by omega)]
     congr 1
     omega
theorem fill_step{place:Nat→Option (Nat×Nat)}{cells:Array Value}{i off size:Nat}{v:Value}{rest:List (Nat×Value)}(hp:place i=some (off,size))(hs:v.cells.size=size)(hf:off+size≤cells.size):
  Instr.fill place cells ((i,v)::rest)=Instr.fill place (cells.toList.take off++v.cells.toList++cells.toList.drop (off+size)).toArray rest:=by
 simp only[Instr.fill,hp]
 rw[if_neg (by simp[hs];omega)]
 congr 1
 apply Array.toList_inj.1
 have:=foldl_set off v.cells.toList 0 cells (by simp;omega)
 simp only[Nat.add_zero,Array.length_toList,hs]at this
 rw[←this,← Array.foldl_toList,Array.toList_zipIdx]
theorem VL.setL{cs vs:List AV}{l m:List Value}(h:VL κ cs l)(k:VL κ vs m)(off:Nat):VL κ (setL cs off vs) (l.take off++m++l.drop (off+m.length)):=by
 unfold Fl.setL
 rw[k.length]
 exact((h.take off).append k).append (h.drop _)
theorem fillA_ok{place:Nat→Option (Nat×Nat)}: ∀(ps:List (Nat×AV)) (qs:List (Nat×Value)) (cs:List AV) (cells:Array Value) (out:List AV),
  ps.length=qs.length→(∀(j:Nat) (p:Nat×AV) (q:Nat×Value),ps[j]? =some p→qs[j]? =some q→p.1=q.1∧V κ p.2 q.2)→VL κ cs cells.toList→fillA place cs ps=some out→
  ∃cells',Instr.fill place cells qs=some cells'∧VL κ out cells'.toList
 |[],[],cs,cells,out,_,_,hl,h=>by simp only[fillA,Option.some.injEq]at h;subst h;exact⟨cells,rfl,hl⟩
 |[],_::_,_,_,_,hn,_,_,_=>by simp at hn
 |_::_,[],_,_,_,hn,_,_,_=>by simp at hn
 |(i,v)::ps,(i',c)::qs,cs,cells,out,hn,hv,hl,h=>by
  obtain⟨e,hvc⟩:=hv 0 _ _ rfl rfl
  simp only at e hvc
  subst e
  simp only[fillA]at h
  split at h
  ·rename_i o n vs hp hcs
   split at h
   ·rename_i hc
    obtain⟨k1,k2,k3⟩:=cellsA_ok hvc hcs
    have hsz:c.cells.size=n:=by have:=k1.length;simp at this;omega
    have hcl:=hl.length
    simp at hcl
    rw[fill_step hp hsz (by omega)]
    refine fillA_ok ps qs _ _ out (by simpa using hn) (fun j p q hp hq=>hv (j+1) p q (by simpa using hp) (by simpa using hq)) ?_ h
    have:=hl.setL k1 o
    simpa[hsz]using this
   ·cases h
  ·cases h
theorem zeroT_ok{t:TypeId}{cs:List AV}(h:zeroT P t=some cs): ∃i z,P.info? t=some i∧i.zero=some z∧cs=z.cells.toList.map abs1:=by
 unfold zeroT at h
 split at h
 ·rename_i z hi
  cases h
  obtain⟨i,h1,h2⟩:=Option.bind_eq_some_iff.1 hi
  exact⟨i,z,h1,h2,rfl⟩
 ·cases h
theorem parts_ok{env:Env}{ρv:Operand→Value}(hρ:Rho κ env ρv)(parts:Array (Nat×Operand)):
  ∀(j:Nat) (p:Nat×AV) (q:Nat×Value),(parts.toList.map fun p=>(p.1,evA env p.2))[j]? =some p→(parts.map fun(i,x)=>(i,ρv x)).toList[j]? =some q→p.1=q.1∧V κ p.2 q.2:=by
 intro j p q hp hq
 simp only[getElem?_map,Array.toList_map]at hp hq
 cases hx:parts.toList[j]? with
 |none=>rw[hx]at hp;cases hp
 |some x=>
  rw[hx]at hp hq
  simp only[Option.map_some,Option.some.injEq]at hp hq
  subst hp;subst hq
  exact⟨rfl,hρ.ev _⟩
theorem build_ok(hc:Conc κ){t:TypeId}{env:Env}{ρv:Operand→Value}(hρ:Rho κ env ρv){parts:Array (Nat×Operand)}{p:Prop}{v:AV}{H':Heap}(h:evOp P env κ.H (.build t parts)= .ok p v H'):
  ValOk P κ (Instr.build t (parts.map fun(i,x)=>(i,ρv x))) v H':=by
 simp only[evOp]at h
 have fin: ∀{place:Nat→Option (Nat×Nat)} {i:TypeInfo} {z:Value},zeroT P t=some (z.cells.toList.map abs1)→ofO True κ.H ((fillA place (z.cells.toList.map abs1) (parts.toList.map fun p=>(p.1,evA env p.2))).map AV.agg)= .ok p v H'→
   (∀cells,Instr.fill place z.cells (parts.map fun(i,x)=>(i,ρv x)).toList=some cells→P.built t (parts.map fun(i,x)=>(i,ρv x)).toList=some cells)→ValOk P κ (Instr.build t (parts.map fun(i,x)=>(i,ρv x))) v H':=by
  intro place i z _ ho hb
  obtain⟨h1,_,rfl⟩:=ofO_ok ho
  obtain⟨out,h2,rfl⟩:=Option.map_eq_some_iff.1 h1
  obtain⟨cells',h3,h4⟩:=fillA_ok _ (parts.map fun(i,x)=>(i,ρv x)).toList _ _ _ (by simp) (parts_ok hρ parts) (absL_ok κ z.cells.toList) h2
  exact .same hc (run_build κ.w t _ cells' (hb _ h3)) ⟨cells',rfl,h4⟩
 split at h
 ·rename_i pl cs hpl hz
  obtain⟨i,z,hi,hzz,rfl⟩:=zeroT_ok hz
  refine fin (i:=i) hz h (fun cells hf=>?_)
  unfold plT at hpl
  split at hpl
  ·rename_i fields hu
   simp only[Option.map_eq_some_iff,Option.some.injEq,exists_eq_right]at hpl
   unfold Program.built
   simp only[hi,hu,hzz,hpl]
   simpa using hf
  ·cases hpl
  ·cases hpl
 ·rename_i cs hpl hz
  split at h
  ·rename_i m e sz ha
   obtain⟨i,z,hi,hzz,rfl⟩:=zeroT_ok hz
   obtain⟨hu,hs⟩:=arT_ok ha
   obtain⟨ie,hie,hsz⟩:=Option.map_eq_some_iff.1 hs
   subst hsz
   refine fin (i:=i) hz h (fun cells hf=>?_)
   unfold Program.built
   simp only[hi,hu,hzz,hie]
   exact hf
  ·cases h
 ·cases h
theorem store_box(hc:Conc κ){t ty:TypeId}{b off n:Nat}{cs vs:List AV}{c:Value}(hb:κ.H[b]? =some (.box ty cs false))(hz:szT P t=some n)(hl:VL κ vs c.cells.toList)(h1: ∀u∈c.cells.toList,u.oneCell'=true)
  (hn:vs.length=n) (hf:off+n≤cs.length):
  ∃κ',(storeVar t ⟨(κ.ρ b).blk,off,none⟩ c).run P κ.w= .ok () κ'.w∧Conc κ'∧StepM κ κ'∧κ'.H=κ.H.set b (.box ty (setL cs off vs) false):=by
 obtain⟨hnil,cur,h2,h3,h4,h5⟩:=hc.blk b _ hb
 have hcl:=h3.length
 have hvl:=hl.length
 simp at hcl hvl
 have hbl:b<κ.H.length:=(List.getElem?_eq_some_iff.1 hb).1
 have hst:=run_storeCells_at (P:=P) (κ.ρ b).blk off ty c.cells.toList 0 cur κ.w h2 (by simp;omega) h1
 simp only[Nat.add_zero,Array.length_toList]at hst
 have hheap:=setRow_heap κ.w (κ.ρ b).blk cur (cur.toList.take off++c.cells.toList++cur.toList.drop (off+c.cells.size)).toArray ty (0,0) h2
 have hm:=hc.mod (w':=κ.w.setRow (κ.ρ b).blk (cur.toList.take off++c.cells.toList++cur.toList.drop (off+c.cells.size)).toArray) b (κ.ρ b) _ (.box ty (setL cs off vs) false) hb rfl rfl rfl (by simp)
  (fun g _ hg=>setRow_other _ _ _ _ (hg hnil)) (fun g o hs=>SameAt.of_block (setRow_other _ _ _ _ (fun e=>by(try simp only at e);subst e;exact h5 rfl o hs)))
  (fun _=>⟨.inl rfl,by simp;exact hc.lt b hbl hnil⟩) ⟨rfl,rfl⟩ (fun hk=>⟨by simp[hnil],_,by simp only[upd_same];exact hheap,?_,?_,fun _ o=>by simp only[upd_same];exact h5 rfl o⟩)
 ·refine⟨_,?_,hm.1,hm.2,rfl⟩
  have:c.cells.size=n:=by omega
  simp[storeVar,Sem.run_bind,run_sizeOf hz,Result.andThen,this,hst]
 ·have:=VL.mono hk _ _ (h3.setL hl off)
  simpa using this
 ·intro u hu
  simp only[List.mem_append]at hu
  rcases hu with(hu|hu)|hu
  ·exact h4 u (mem_of_mem_take hu)
  ·exact h1 u hu
  ·exact h4 u (mem_of_mem_drop hu)
end
section
variable {P:Program} {κ:Cx}
theorem setL_append{a b vs:List AV}{off:Nat}(h:off+vs.length≤a.length):setL (a++b) off vs=setL a off vs++b:=by
 unfold setL
 rw[List.take_append_of_le_length (by omega),List.drop_append_of_le_length (by omega)]
 simp
theorem setL_skip{a b vs:List AV}{off:Nat}:setL (a++b) (a.length+off) vs=a++setL b off vs:=by
 unfold setL
 rw[List.take_length_add_append,show a.length+off+vs.length=a.length+(off+vs.length)from by omega,List.drop_length_add_append]
 simp
theorem setL_length{a vs:List AV}{off:Nat}(h:off+vs.length≤a.length):(setL a off vs).length=a.length:=by
 unfold setL;simp;omega
theorem flatten_set{sz:Nat}: ∀(es:List (List AV)) (i off:Nat) (vs:List AV),(∀e∈es,e.length=sz)→i<es.length→off+vs.length≤sz→
  (es.set i (setL (es.getD i []) off vs)).flatten=setL es.flatten (i*sz+off) vs
 |[],i,off,vs,_,h,_=>by simp at h
 |e::es,0,off,vs,hs,_,hv=>by
  have he:=hs e (by simp)
  simp only[List.set_cons_zero,flatten_cons,List.getD_cons_zero,Nat.zero_mul,Nat.zero_add]
  rw[setL_append (by omega)]
 |e::es,i+1,off,vs,hs,h,hv=>by
  have he:=hs e (by simp)
  simp only[List.set_cons_succ,flatten_cons,List.getD_cons_succ]
  rw[flatten_set es i off vs (fun x hx=>hs x (by simp[hx])) (by simpa using h) hv,show(i+1)*sz+off=e.length+(i*sz+off)from by rw[he,Nat.add_mul];omega,setL_skip]
theorem store_row(hc:Conc κ){t el:TypeId}{b i off n sz:Nat}{es:List (List AV)}{vs:List AV}{c:Value}(hb:κ.H[b]? =some (.row el sz es false))(hz:szT P t=some n)(hl:VL κ vs c.cells.toList)(h1: ∀u∈c.cells.toList,u.oneCell'=true)
  (hn:vs.length=n) (hi:i<es.length) (hf:off+n≤sz):
  ∃κ',(storeVar t ⟨(κ.ρ b).blk,i*sz+off,none⟩ c).run P κ.w= .ok () κ'.w∧Conc κ'∧StepM κ κ'∧κ'.H=κ.H.set b (.row el sz (es.set i (setL (es.getD i []) off vs)) false):=by
 obtain⟨hsz,hes,hnil0,hrow⟩:=hc.blk b _ hb
 have hnil:(κ.ρ b).isNil=false:=by
  cases hq:(κ.ρ b).isNil with
  |false=>rfl
  |true=>have:=(hnil0 hq).2;subst this;simp at hi
 obtain⟨⟨cur,h2,a2,a3,a4,a5,a6⟩,h7,h8⟩:=hrow hnil
 have hcl:=a5.length
 have hvl:=hl.length
 have hfl:=flatten_length es hes
 simp at hcl hvl
 have hbl:b<κ.H.length:=(List.getElem?_eq_some_iff.1 hb).1
 have hk:i*sz+off+n≤es.length*sz:=by
  have:(i+1)*sz≤es.length*sz:=Nat.mul_le_mul_right _ hi
  rw[Nat.add_mul]at this;omega
 have hcs:es.length*sz≤cur.size:=by rw[a2];exact Nat.mul_le_mul_right _ a3
 have hst:=run_storeCells_at (P:=P) (κ.ρ b).blk (i*sz+off) el c.cells.toList 0 cur κ.w h2 (by simp;omega) h1
 simp only[Nat.add_zero,Array.length_toList]at hst
 have hheap:=setRow_heap κ.w (κ.ρ b).blk cur (cur.toList.take (i*sz+off)++c.cells.toList++cur.toList.drop (i*sz+off+c.cells.size)).toArray el (0,0) h2
 have hen: ∀e∈es.set i (setL (es.getD i []) off vs),e.length=sz:=by
  intro e he
  rcases List.mem_or_eq_of_mem_set he with he|he
  ·exact hes e he
  ·have:(es.getD i []).length=sz:=by simp only[List.getD_eq_getElem?_getD,getElem?_eq_getElem hi,Option.getD_some];exact hes _ (List.getElem_mem hi)
   rw[he,setL_length (by omega),this]
 have hcut:(cur.toList.take (i*sz+off)++c.cells.toList++cur.toList.drop (i*sz+off+c.cells.size)).take (es.length*sz)=
   (cur.toList.take (es.length*sz)).take (i*sz+off)++c.cells.toList++(cur.toList.take (es.length*sz)).drop (i*sz+off+c.cells.size):=by
  rw[List.take_append,List.take_append,take_take,take_take,List.drop_take]
  simp only[length_append,length_take,Array.length_toList]
  congr 1
  ·congr 1
   ·congr 1;omega
   ·rw[take_of_length_le (by simp;omega)]
  ·congr 1;omega
 have hm:=hc.mod (w':=κ.w.setRow (κ.ρ b).blk (cur.toList.take (i*sz+off)++c.cells.toList++cur.toList.drop (i*sz+off+c.cells.size)).toArray) b (κ.ρ b) _ (.row el sz (es.set i (setL (es.getD i []) off vs)) false) hb rfl rfl rfl (by simp)
  (fun g _ hg=>setRow_other _ _ _ _ (hg hnil)) (fun g o hs=>SameAt.of_block (setRow_other _ _ _ _ (fun e=>by(try simp only at e);subst e;exact h8 rfl o hs)))
  (fun _=>⟨.inl rfl,by simp;exact hc.lt b hbl hnil⟩) ⟨rfl,rfl,by simp,fun _=>rfl⟩ (fun hk'=>⟨hsz,hen,(by simp[upd_same,hnil]),fun _=>⟨⟨_,(by simp only[upd_same];exact hheap),?_,?_,?_,?_,?_⟩,?_,?_⟩⟩)
 ·refine⟨_,?_,hm.1,hm.2,rfl⟩
  have:c.cells.size=n:=by omega
  simp[storeVar,Sem.run_bind,run_sizeOf hz,Result.andThen,this,hst]
 ·simp only[upd_same,size_toArray,length_append,length_take,length_drop,Array.length_toList];omega
 ·simp only[upd_same,length_set];exact a3
 ·simp only[upd_same];exact a4
 ·simp only[length_set]
  rw[flatten_set es i off vs hes hi (by omega),hcut]
  have:=(VL.mono hk' _ _ a5).setL (VL.mono hk' _ _ hl) (i*sz+off)
  simpa using this
 ·simp only[length_set]
  intro u hu
  rw[hcut]at hu
  simp only[List.mem_append]at hu
  rcases hu with(hu|hu)|hu
  ·exact a6 u (mem_of_mem_take hu)
  ·exact h1 u hu
  ·exact a6 u (mem_of_mem_drop hu)
 ·simp only[upd_same,length_set];exact h7
 ·simp only[upd_same];exact fun _=>h8 rfl
theorem st_ok(hc:Conc κ){t:TypeId}{a x:AV}{ca cx:Value}(ha:V κ a ca)(hx:V κ x cx){p:Prop}{v:AV}{H':Heap}(h:stA P κ.H t a x= .ok p v H')(hp:p):
  ∃κ',(Instr.storeAt t ca cx).run P κ.w= .ok () κ'.w∧Conc κ'∧StepM κ κ'∧κ'.H=H'∧v= .any:=by
 unfold stA at h
 split at h
 ·rename_i vs n hvs hz
  obtain⟨k1,k2,k3⟩:=cellsA_ok hx hvs
  split at h
  ·rename_i hn
   split at h
   ·rename_i b off
    split at h
    ·rename_i ty cs hb
     simp only[Res.ok.injEq]at h
     obtain⟨rfl,rfl,rfl⟩:=h
     obtain⟨ty',cs',sl',hb',rfl⟩:=ha
     obtain⟨κ',r1,r2,r3,r4⟩:=store_box (P:=P) hc hb hz k1 k2 hn hp
     exact⟨κ',by simp[Instr.storeAt,Instr.sureAddr,Sem.run_bind,Result.andThen,r1],r2,r3,r4,rfl⟩
    ·cases h
   ·rename_i b n' i off
    split at h
    ·rename_i el sz es hb
     simp only[Res.ok.injEq]at h
     obtain⟨rfl,rfl,rfl⟩:=h
     obtain⟨p1,p2,p3⟩:=hp
     obtain⟨_,el',sz',es',sl',hb',hle,e⟩:=ha
     rw[hb]at hb';cases hb'
     have:=e p1
     subst this
     obtain⟨κ',r1,r2,r3,r4⟩:=store_row (P:=P) hc hb hz k1 k2 hn (show i<es.length by omega) p3
     exact⟨κ',by simp[Instr.storeAt,Instr.sureAddr,Sem.run_bind,Result.andThen,r1],r2,r3,r4,rfl⟩
    ·cases h
   ·cases h
  ·cases h
 ·cases h
theorem push_row(hc:Conc κ)(w':World)(el:TypeId)(sz:Nat)(es:List (List AV))(cur:Array Value)(cap:Nat)(hw:SameW κ.w w')(hsz:0<sz)(hes: ∀e∈es,e.length=sz)(hcs:cur.size=cap*sz)(hle:es.length≤cap)(hcap:cap≤maxLen)
  (hl:VL κ es.flatten (cur.toList.take (es.length*sz))) (h1: ∀u∈cur.toList.take (es.length*sz),u.oneCell'=true):
  ∃κ',κ'.w=w'.alloc (.cells cur el)∧Conc κ'∧StepM κ κ'∧κ'.H=κ.H++[.row el sz es false]∧V κ' (.row κ.H.length es.length) (.slice (some ⟨κ.w.heap.size,0,none⟩) es.length cap):=by
 have hp:=hc.push (w':=w'.alloc (.cells cur el)) { blk:=κ.w.heap.size,cap:=cap,isNil:=false } (.row el sz es false) hw.os hw.tape hw.output (by simp[hw.heap]) (fun g hg=>by rw[Below.heap_alloc _ _ _ (by rw[hw.heap];exact hg),hw.heap])
  (fun _=>⟨Nat.le_refl _,by simp[hw.heap]⟩) (fun hk=>⟨hsz,hes,(by simp[upd_same]),fun _=>⟨⟨cur,?_,?_,?_,?_,VL.mono hk _ _ hl,h1⟩,?_,?_⟩⟩)
 ·exact⟨_,rfl,hp.1,hp.2,rfl,⟨_,_,rfl⟩,el,sz,es,false,by simp,Nat.le_refl _,fun _=>by simp[rowVal]⟩
 ·simp only[upd_same];rw[←hw.heap];exact heap_alloc_new _ _
 ·simp only[upd_same];exact hcs
 ·simp only[upd_same];exact hle
 ·simp only[upd_same];exact hcap
 ·simp only[upd_same];intro o _ hs;have:=hc.swf _ _ hs;omega
 ·simp only[upd_same];intro _ o hs;have:=hc.swf _ _ hs;omega
theorem push_nil(hc:Conc κ)(el:TypeId)(sz:Nat)(A:Option Addr)(hsz:0<sz):
  ∃κ',κ'.w=κ.w∧Conc κ'∧StepM κ κ'∧κ'.H=κ.H++[.row el sz [] false]∧V κ' (.row κ.H.length 0) (.slice A 0 0):=by
 have hp:=hc.push (w':=κ.w) { blk:=0,cap:=0,isNil:=true,ad:=A } (.row el sz [] false) rfl rfl rfl (Nat.le_refl _) (fun g hg=>rfl)
  (fun e=>by cases e) (fun hk=>⟨hsz,by simp,fun _=>⟨by simp,rfl⟩,fun e=>by simp at e⟩)
 exact⟨{ S:=κ.S,w:=κ.w,ρ:=upd κ.ρ κ.H.length { blk:=0,cap:=0,isNil:=true,ad:=A },H:=κ.H++[.row el sz [] false] },rfl,hp.1,hp.2,rfl,⟨_,_,rfl⟩,el,sz,[],false,by simp,Nat.le_refl _,fun _=>by simp only[rowVal,upd_same,if_true,Rz.adr]⟩
end
section
variable {P:Program} {κ:Cx}
theorem Conc.sld(hc:Conc κ)(o:Obj):
  Conc { κ with S:=fun g k=>κ.S g k∨g=κ.w.heap.size,w:=κ.w.alloc o }∧StepM κ { κ with S:=fun g k=>κ.S g k∨g=κ.w.heap.size,w:=κ.w.alloc o }:=by
 have hold: ∀g,g<κ.w.heap.size→(κ.w.alloc o).heap[g]? =κ.w.heap[g]? :=fun g hg=>Below.heap_alloc _ _ _ hg
 have hk:Keep κ { κ with S:=fun g k=>κ.S g k∨g=κ.w.heap.size,w:=κ.w.alloc o }:=
  ⟨fun g k hs=>⟨.inl hs,SameAt.of_block (hold g (hc.swf g k hs))⟩,fun b ty cs sl hb=>⟨rfl,cs,sl,hb⟩,fun b el sz es sl hb=>⟨es,sl,hb,Nat.le_refl _,fun _=>rfl⟩,fun b el sz es g hb=>⟨es,g,hb,Nat.le_refl _,fun _=>⟨rfl,rfl⟩⟩⟩
 refine⟨⟨fun b x hb=>?_,hc.inj,fun b hb hn=>by simp;exact Nat.lt_succ_of_lt (hc.lt b hb hn),fun g k hs=>?_,hc.gls hk.s⟩,?_⟩
 ·have hbl:=(List.getElem?_eq_some_iff.1 hb).1
  refine(hc.blk b x hb).keep hk rfl (fun hn=>hold _ (hc.lt b hbl hn)) (fun hn k hs=>?_)
  rcases hs with hs|hs
  ·exact hs
  ·have:=hc.lt b hbl hn;omega
 ·rcases hs with hs|hs
  ·have:=hc.swf g k hs;simp;omega
  ·simp;omega
 ·exact { hk with os:=rfl,tape:=rfl,output:=rfl,size:=by simp,frame:=fun g hg _=>hold g hg,snew:=fun g k hs=>hs.elim .inl (fun e=> .inr (.inl (by omega))),own:=fun g hg=> .inl hg }
theorem src_ok(hc:Conc κ){x:AV}{c:Value}(hx:V κ x c){q:Prop}{ys:List (List AV)}{sz:Nat}(h:srcA κ.H x=some (q,ys))(hq:q)(hs:okSz sz x=true)(hrow: ∀b n el sz' es sl,x= .row b n→κ.H[b]? =some (.row el sz' es sl)→sz'=sz):
  ∃A cap news,c= .slice A ys.length cap∧(A=none→ys=[])∧(∀e∈ys,e.length=sz)∧VL κ ys.flatten news∧(∀u∈news,u.oneCell'=true)∧(∀ad,A=some ad→ ∀j u,news[j]? =some u→κ.w.cell? (ad.add j)=some u):=by
 cases x<;>simp only[srcA,Option.some.injEq,Prod.mk.injEq]at h<;>first|(cases h;done)|skip
 case nilS=>
  obtain⟨_,rfl⟩:=h
  exact⟨none,0,[],hx,fun _=>rfl,by simp,rfl,by simp,(fun ad e=>by cases e)⟩
 case lst f sz' es=>
  obtain⟨_,rfl⟩:=h
  simp only[okSz,beq_iff_eq]at hs
  subst hs
  obtain⟨A,cap,rfl,q1,q2,q3,q4,q5,q6⟩:=hx
  have flat: ∀(es:List (List AV)) (ad:Addr),ad.spot=none→PVE κ.S κ.w sz es ad→(∀e∈es,e.length=sz)→Cells κ es.flatten ad:=by
   intro es
   induction es with
   |nil=>exact fun ad _ _ _=>⟨[],rfl,by simp,by simp⟩
   |cons e es ih=>
    intro ad hs ⟨h1,h2⟩ hl
    obtain⟨l1,a1,a2,a3⟩:=Cells.of_pvc e ad hs h1
    obtain⟨l2,b1,b2,b3⟩:=ih ⟨ad.block,ad.off+sz,none⟩ rfl h2 (fun x hx=>hl x (by simp[hx]))
    have hlen:=a1.length
    rw[hl e (by simp)]at hlen
    refine⟨l1++l2,by simpa using a1.append b1,fun u hu=>(List.mem_append.1 hu).elim (a2 u) (b2 u),fun j u hu=>?_⟩
    rw[List.getElem?_append]at hu
    split at hu
    ·exact a3 j u hu
    ·have:=b3 _ u hu
     simp only at this
     rw[show ad.off+sz+(j-l1.length)=ad.off+j from by omega]at this
     exact this
  cases A with
  |none=>
   have h0:=q5 rfl
   have:es=[]:=eq_nil_of_length_eq_zero (by omega)
   subst this
   exact⟨none,cap,[],rfl,fun _=>rfl,by simp,rfl,by simp,(fun ad e=>by cases e)⟩
  |some ad=>
   obtain⟨s1,s2⟩:=q4 ad rfl
   by_cases h0:cap=0
   ·have:es=[]:=eq_nil_of_length_eq_zero (by omega)
    subst this
    exact⟨some ad,cap,[],rfl,fun _=>rfl,by simp,rfl,by simp,(fun ad e j u hu=>by simp at hu)⟩
   have s1:=s1 h0
   obtain⟨l,a1,a2,a3⟩:=flat es ad s1 s2 q6
   exact⟨some ad,cap,l,rfl,(fun e=>by cases e),q6,a1,a2,fun ad' e j u hu=>by cases e;rw[add_none s1];exact a3 j u hu⟩
 case row b n=>
  split at h
  ·rename_i el sz' es sl hb
   simp only[Option.some.injEq,Prod.mk.injEq]at h
   obtain⟨rfl,rfl⟩:=h
   obtain⟨_,el',sz'',es',sl',hb',hle,e⟩:=hx
   rw[hb]at hb';cases hb'
   have hv:=e hq
   subst hv
   have hszz:=hrow b n _ _ _ _ rfl hb
   subst hszz
   obtain⟨_,hes,hnil,_⟩:=hc.blk b _ hb
   subst hq
   cases hn:(κ.ρ b).isNil with
   |true=>
    obtain⟨h1,h2⟩:=hnil hn
    subst h2
    exact⟨(κ.ρ b).adr,(κ.ρ b).cap,[],by simp[rowVal,hn],fun _=>rfl,by simp,rfl,by simp,fun ad e j u hu=>by simp at hu⟩
   |false=>
    obtain⟨l,a1,a2,a3⟩:=Cells.of_row hc hb hn
    exact⟨some ⟨(κ.ρ b).blk,0,none⟩,(κ.ρ b).cap,l,by simp[rowVal,hn],(fun e=>by cases e),hes,a1,a2,fun ad e j u hu=>by cases e;rw[add_none rfl];exact a3 j u hu⟩
  ·cases h
theorem info_of{e:TypeId}{n by_:Nat}(hz:szT P e=some n)(hb:byT P e=some by_): ∃i,P.info? e=some i∧i.size=n∧i.bytes=by_:=by
 obtain⟨i,h1,h2⟩:=Option.map_eq_some_iff.1 hz
 obtain⟨j,h3,h4⟩:=Option.map_eq_some_iff.1 hb
 rw[h1]at h3;cases h3
 exact⟨i,h1,h2,h4⟩
theorem run_append_nothing{t e:TypeId}{ty:TypeId}{n:Nat}(he:elT P t=some (e,n))(A:Option Addr)(len cap:Nat)(hle:len≤cap)(B:Option Addr)(c:Nat)(w:World)(hg: ∀a,A=some a→True):
  (Builtin.append_ #[t,t] ty #[.slice A len cap,.slice B 0 c]).run P w= .ok (.slice A len cap) w:=by
 obtain⟨hu,hz⟩:=elT_ok he
 obtain⟨i,hi,hs⟩:=Option.map_eq_some_iff.1 hz
 cases A<;>cases B<;>simp[Builtin.append_,run_underlying hu,sizeOf,typeInfo,hi,Builtin.lenOf,hle,Builtin.firstCells,loadCells,loadCellsFrom,storeCells]
end
section
variable {P:Program} {κ:Cx}
theorem mod_new(hc:Conc κ){b:Nat}{el:TypeId}{sz:Nat}{xs es:List (List AV)}{sl:Bool}(hb:κ.H[b]? =some (.row el sz xs sl))(w':World)(cur:Array Value)(cap:Nat)(hw:SameW κ.w w')(hsz:0<sz)(hes: ∀e∈es,e.length=sz)
  (hcs:cur.size=cap*sz) (hle:es.length≤cap) (hcap:cap≤maxLen) (hlt:xs.length<es.length) (hl:VL κ es.flatten (cur.toList.take (es.length*sz))) (h1: ∀u∈cur.toList.take (es.length*sz),u.oneCell'=true):
  ∃κ',κ'.w=w'.alloc (.cells cur el)∧Conc κ'∧StepM κ κ'∧κ'.H=κ.H.set b (.row el sz es sl)∧V κ' (.row b es.length) (.slice (some ⟨κ.w.heap.size,0,none⟩) es.length cap):=by
 have hbl:b<κ.H.length:=(List.getElem?_eq_some_iff.1 hb).1
 have hold: ∀g,g<κ.w.heap.size→(w'.alloc (.cells cur el)).heap[g]? =κ.w.heap[g]? :=fun g hg=>by rw[Below.heap_alloc _ _ _ (by rw[hw.heap];exact hg),hw.heap]
 have hm:=hc.mod (w':=w'.alloc (.cells cur el)) b { blk:=κ.w.heap.size,cap:=cap,isNil:=false } _ (.row el sz es sl) hb hw.os hw.tape hw.output (by simp[hw.heap]) (fun g hg _=>hold g hg)
  (fun g o hs=>SameAt.of_block (hold g (hc.swf g o hs))) (fun _=>⟨.inr (Nat.le_refl _),by simp[hw.heap]⟩) ⟨rfl,rfl,by omega,fun e=>by omega⟩
  (fun hk=>⟨hsz,hes,(by simp[upd_same]),fun _=>⟨⟨cur,?_,?_,?_,?_,VL.mono hk _ _ hl,h1⟩,?_,?_⟩⟩)
 ·exact⟨_,rfl,hm.1,hm.2,rfl,⟨_,_,rfl⟩,el,sz,es,sl,by simp[hbl],Nat.le_refl _,fun _=>by simp[rowVal]⟩
 ·simp only[upd_same];rw[←hw.heap];exact heap_alloc_new _ _
 ·simp only[upd_same];exact hcs
 ·simp only[upd_same];exact hle
 ·simp only[upd_same];exact hcap
 ·simp only[upd_same];intro o _ hs;have:=hc.swf _ _ hs;omega
 ·simp only[upd_same];intro _ o hs;have:=hc.swf _ _ hs;omega
theorem mod_room(hc:Conc κ){b:Nat}{el:TypeId}{sz:Nat}{xs ys:List (List AV)}{sl:Bool}(hb:κ.H[b]? =some (.row el sz xs sl))(hn:(κ.ρ b).isNil=false)(hys: ∀e∈ys,e.length=sz)(news:List Value)(hl:VL κ ys.flatten news)(h1: ∀u∈news,u.oneCell'=true)
  (hroom:xs.length+ys.length≤(κ.ρ b).cap) (cur:Array Value) (h2:κ.w.heap[(κ.ρ b).blk]? =some (.cells cur el (0,0))):
  ∃κ',κ'.w=κ.w.setRow (κ.ρ b).blk (cur.toList.take (xs.length*sz)++news++cur.toList.drop (xs.length*sz+news.length)).toArray∧Conc κ'∧StepM κ κ'∧κ'.H=κ.H.set b (.row el sz (xs++ys) sl)∧
   V κ' (.row b (xs.length+ys.length)) (.slice (some ⟨(κ.ρ b).blk,0,none⟩) (xs.length+ys.length) (κ.ρ b).cap):=by
 obtain⟨hsz,hxs,hnil0,hrow⟩:=hc.blk b _ hb
 obtain⟨⟨cur',a1,a2,a3,a4,a5,a6⟩,h7,h8⟩:=hrow hn
 rw[h2]at a1;cases a1
 have hbl:b<κ.H.length:=(List.getElem?_eq_some_iff.1 hb).1
 have hnl:news.length=ys.length*sz:=by rw[←hl.length];exact flatten_length ys hys
 have hctl:cur.toList.length=cur.size:=by simp
 have hcs:xs.length*sz+news.length≤cur.size:=by rw[a2,hnl,← Nat.add_mul];exact Nat.mul_le_mul_right _ hroom
 have hheap:=setRow_heap κ.w (κ.ρ b).blk cur (cur.toList.take (xs.length*sz)++news++cur.toList.drop (xs.length*sz+news.length)).toArray el (0,0) h2
 have hcut:(cur.toList.take (xs.length*sz)++news++cur.toList.drop (xs.length*sz+news.length)).take ((xs++ys).length*sz)=cur.toList.take (xs.length*sz)++news:=by
  apply take_left'
  rw[length_append,length_append,length_take,Nat.add_mul,hnl];omega
 have hm:=hc.mod (w':=κ.w.setRow (κ.ρ b).blk (cur.toList.take (xs.length*sz)++news++cur.toList.drop (xs.length*sz+news.length)).toArray) b (κ.ρ b) _ (.row el sz (xs++ys) sl) hb rfl rfl rfl (by simp)
  (fun g _ hg=>setRow_other _ _ _ _ (hg hn)) (fun g o hs=>by
   by_cases e:g=(κ.ρ b).blk
   ·subst e
    have ho:o<xs.length*sz:=by
     rcases Nat.lt_or_ge o (xs.length*sz)with h|h
     ·exact h
     ·exact absurd hs (h7 o h)
    refine⟨?_,fun _ _ _ _ _ k=>(k.not h2 fun _ _ e=>by cases e).elim⟩
    rw[cell_of_row _ _ o _ el (0,0) hheap,cell_of_row _ _ o _ el (0,0) h2]
    simp only[List.getElem?_toArray,List.append_assoc]
    rw[List.getElem?_append_left (by rw[length_take];omega),getElem?_take,if_pos ho,Array.getElem?_toList]
   ·exact SameAt.of_block (setRow_other _ _ _ _ e))
  (fun _=>⟨.inl rfl,by simp;exact hc.lt b hbl hn⟩) ⟨rfl,rfl,by simp,fun _=>rfl⟩
  (fun hk=>⟨hsz,fun e he=>(List.mem_append.1 he).elim (hxs e) (hys e),(by simp[upd_same,hn]),fun _=>⟨⟨_,(by simp only[upd_same];exact hheap),?_,?_,?_,?_,?_⟩,?_,?_⟩⟩)
 ·refine⟨_,rfl,hm.1,hm.2,rfl,⟨_,_,rfl⟩,el,sz,xs++ys,sl,by simp[hbl],by simp,fun _=>by simp[rowVal,hn]⟩
 ·simp only[upd_same,size_toArray,length_append,length_take,length_drop];omega
 ·simp only[upd_same,length_append];exact hroom
 ·simp only[upd_same];exact a4
 ·show VL _ (xs++ys).flatten ((cur.toList.take (xs.length*sz)++news++cur.toList.drop (xs.length*sz+news.length)).toArray.toList.take ((xs++ys).length*sz))
  simp only[flatten_append]
  rw[hcut]
  exact(VL.mono hk _ _ a5).append (VL.mono hk _ _ hl)
 ·show∀u∈(cur.toList.take (xs.length*sz)++news++cur.toList.drop (xs.length*sz+news.length)).toArray.toList.take ((xs++ys).length*sz),u.oneCell'=true
  simp only[]
  rw[hcut]
  exact fun u hu=>(List.mem_append.1 hu).elim (a6 u) (h1 u)
 ·simp only[upd_same]
  intro o ho
  exact h7 o (by simp only[length_append,Nat.add_mul]at ho;omega)
 ·simp only[upd_same];exact h8
theorem mod_newG(hc:Conc κ){b:Nat}{el:TypeId}{sz:Nat}{xs es:List (List AV)}{g:Nat}(hb:κ.H[b]? =some (.rg el sz xs g))(w':World)(cur:Array Value)(cap:Nat)(hw:SameW κ.w w')(hsz:0<sz)(hes: ∀e∈es,e.length=sz)
  (hcs:cur.size=cap*sz) (hle:es.length≤cap) (hcap:cap≤maxLen) (hl:VL κ es.flatten (cur.toList.take (es.length*sz))) (h1: ∀u∈cur.toList.take (es.length*sz),u.oneCell'=true):
  ∃κ',κ'.w=w'.alloc (.cells cur el)∧Conc κ'∧StepM κ κ'∧κ'.H=κ.H.set b (.rg el sz es (g+1))∧V κ' (.rg b es.length (g+1)) (.slice (some ⟨κ.w.heap.size,0,none⟩) es.length cap):=by
 have hbl:b<κ.H.length:=(List.getElem?_eq_some_iff.1 hb).1
 have hold: ∀g,g<κ.w.heap.size→(w'.alloc (.cells cur el)).heap[g]? =κ.w.heap[g]? :=fun g hg=>by rw[Below.heap_alloc _ _ _ (by rw[hw.heap];exact hg),hw.heap]
 have hm:=hc.mod (w':=w'.alloc (.cells cur el)) b { blk:=κ.w.heap.size,cap:=cap,isNil:=false } _ (.rg el sz es (g+1)) hb hw.os hw.tape hw.output (by simp[hw.heap]) (fun g hg _=>hold g hg)
  (fun g o hs=>SameAt.of_block (hold g (hc.swf g o hs))) (fun _=>⟨.inr (Nat.le_refl _),by simp[hw.heap]⟩) ⟨rfl,rfl,Nat.lt_succ_self g⟩
  (fun hk=>⟨hsz,hes,(by simp[upd_same]),fun _=>⟨⟨cur,?_,?_,?_,?_,VL.mono hk _ _ hl,h1⟩,?_⟩⟩)
 ·exact⟨_,rfl,hm.1,hm.2,rfl,⟨_,_,rfl⟩,el,sz,es,g+1,by simp[hbl],Nat.le_refl _,fun _=>⟨Nat.le_refl _,by simp[rowVal]⟩⟩
 ·simp only[upd_same];rw[←hw.heap];exact heap_alloc_new _ _
 ·simp only[upd_same];exact hcs
 ·simp only[upd_same];exact hle
 ·simp only[upd_same];exact hcap
 ·simp only[upd_same];intro o hs;have:=hc.swf _ _ hs;omega
theorem mod_roomG(hc:Conc κ){b:Nat}{el:TypeId}{sz:Nat}{zs xs ys:List (List AV)}{g:Nat}(hb:κ.H[b]? =some (.rg el sz zs g))(hn:(κ.ρ b).isNil=false)(k:Nat)(hk:k≤zs.length)(hxs0:xs=zs.take k)(hys: ∀e∈ys,e.length=sz)(news:List Value)(hl:VL κ ys.flatten news)(h1: ∀u∈news,u.oneCell'=true)
  (hroom:xs.length+ys.length≤(κ.ρ b).cap) (cur:Array Value) (h2:κ.w.heap[(κ.ρ b).blk]? =some (.cells cur el (0,0))):
  ∃κ',κ'.w=κ.w.setRow (κ.ρ b).blk (cur.toList.take (xs.length*sz)++news++cur.toList.drop (xs.length*sz+news.length)).toArray∧Conc κ'∧StepM κ κ'∧κ'.H=κ.H.set b (.rg el sz (xs++ys) (g+1))∧
   V κ' (.rg b (xs.length+ys.length) (g+1)) (.slice (some ⟨(κ.ρ b).blk,0,none⟩) (xs.length+ys.length) (κ.ρ b).cap):=by
 obtain⟨hsz,hzs,hnil0,hrow⟩:=hc.blk b _ hb
 obtain⟨⟨cur',a1,a2,a3,a4,b5,b6⟩,h8⟩:=hrow hn
 rw[h2]at a1;cases a1
 have hxl:xs.length=k:=by rw[hxs0,length_take];omega
 have hxs: ∀e∈xs,e.length=sz:=fun e he=>hzs e (by rw[hxs0]at he;exact mem_of_mem_take he)
 have hfl:xs.flatten=zs.flatten.take (k*sz):=by
  have e1:zs.flatten=(zs.take k).flatten++(zs.drop k).flatten:=by rw[←flatten_append,List.take_append_drop]
  have e2:(zs.take k).flatten.length=k*sz:=by rw[flatten_length _ (fun e he=>hzs e (mem_of_mem_take he)),length_take];congr 1;omega
  rw[hxs0,e1,take_left' e2]
 have hcl:cur.toList.take (xs.length*sz)=(cur.toList.take (zs.length*sz)).take (k*sz):=by
  rw[hxl,take_take,Nat.min_eq_left (Nat.mul_le_mul_right _ hk)]
 have a5:VL κ xs.flatten (cur.toList.take (xs.length*sz)):=by rw[hfl,hcl];exact b5.take _
 have a6: ∀u∈cur.toList.take (xs.length*sz),u.oneCell'=true:=by rw[hcl];exact fun u hu=>b6 u (mem_of_mem_take hu)
 have hbl:b<κ.H.length:=(List.getElem?_eq_some_iff.1 hb).1
 have hnl:news.length=ys.length*sz:=by rw[←hl.length];exact flatten_length ys hys
 have hctl:cur.toList.length=cur.size:=by simp
 have hcs:xs.length*sz+news.length≤cur.size:=by rw[a2,hnl,← Nat.add_mul];exact Nat.mul_le_mul_right _ hroom
 have hheap:=setRow_heap κ.w (κ.ρ b).blk cur (cur.toList.take (xs.length*sz)++news++cur.toList.drop (xs.length*sz+news.length)).toArray el (0,0) h2
 have hcut:(cur.toList.take (xs.length*sz)++news++cur.toList.drop (xs.length*sz+news.length)).take ((xs++ys).length*sz)=cur.toList.take (xs.length*sz)++news:=by
  apply take_left'
  rw[length_append,length_append,length_take,Nat.add_mul,hnl];omega
 have hm:=hc.mod (w':=κ.w.setRow (κ.ρ b).blk (cur.toList.take (xs.length*sz)++news++cur.toList.drop (xs.length*sz+news.length)).toArray) b (κ.ρ b) _ (.rg el sz (xs++ys) (g+1)) hb rfl rfl rfl (by simp)
  (fun g _ hg=>setRow_other _ _ _ _ (hg hn)) (fun g o hs=>by
   by_cases e:g=(κ.ρ b).blk
   ·subst e
    exact absurd hs (h8 o)
   ·exact SameAt.of_block (setRow_other _ _ _ _ e))
  (fun _=>⟨.inl rfl,by simp;exact hc.lt b hbl hn⟩) ⟨rfl,rfl,Nat.lt_succ_self g⟩
  (fun hk=>⟨hsz,fun e he=>(List.mem_append.1 he).elim (hxs e) (hys e),(by simp[upd_same,hn]),fun _=>⟨⟨_,(by simp only[upd_same];exact hheap),?_,?_,?_,?_,?_⟩,?_⟩⟩)
 ·refine⟨_,rfl,hm.1,hm.2,rfl,⟨_,_,rfl⟩,el,sz,xs++ys,g+1,by simp[hbl],Nat.le_refl _,fun _=>⟨by simp,by simp[rowVal,hn]⟩⟩
 ·simp only[upd_same,size_toArray,length_append,length_take,length_drop];omega
 ·simp only[upd_same,length_append];exact hroom
 ·simp only[upd_same];exact a4
 ·show VL _ (xs++ys).flatten ((cur.toList.take (xs.length*sz)++news++cur.toList.drop (xs.length*sz+news.length)).toArray.toList.take ((xs++ys).length*sz))
  simp only[flatten_append]
  rw[hcut]
  exact(VL.mono hk _ _ a5).append (VL.mono hk _ _ hl)
 ·show∀u∈(cur.toList.take (xs.length*sz)++news++cur.toList.drop (xs.length*sz+news.length)).toArray.toList.take ((xs++ys).length*sz),u.oneCell'=true
  simp only[]
  rw[hcut]
  exact fun u hu=>(List.mem_append.1 hu).elim (a6 u) (h1 u)
 ·simp only[upd_same];exact h8
theorem srcG_ok(hc:Conc κ){b:Nat}{el:TypeId}{sz:Nat}{zs:List (List AV)}{g:Nat}(hb:κ.H[b]? =some (.rg el sz zs g))(k:Nat)(hk:k≤zs.length):
  ∃A cap news,rowVal (κ.ρ b) k= .slice A (zs.take k).length cap∧(A=none→zs.take k=[])∧(∀e∈zs.take k,e.length=sz)∧VL κ (zs.take k).flatten news∧(∀u∈news,u.oneCell'=true)∧(∀ad,A=some ad→ ∀j u,news[j]? =some u→κ.w.cell? (ad.add j)=some u):=by
 obtain⟨_,hes,hnil,hrow⟩:=hc.blk b _ hb
 have hxl:(zs.take k).length=k:=by rw[length_take];omega
 cases hn:(κ.ρ b).isNil with
 |true=>
  obtain⟨h1,h2⟩:=hnil hn
  subst h2
  have hk0:k=0:=by simpa using hk
  subst hk0
  exact⟨(κ.ρ b).adr,(κ.ρ b).cap,[],by simp[rowVal,hn],fun _=>rfl,by simp,rfl,by simp,fun ad e j u hu=>by simp at hu⟩
 |false=>
  obtain⟨⟨cur,a1,a2,a3,a4,a5,a6⟩,_⟩:=hrow hn
  have hfl:(zs.take k).flatten=zs.flatten.take (k*sz):=by
   have e1:zs.flatten=(zs.take k).flatten++(zs.drop k).flatten:=by rw[←flatten_append,List.take_append_drop]
   have e2:(zs.take k).flatten.length=k*sz:=by rw[flatten_length _ (fun e he=>hes e (mem_of_mem_take he)),hxl]
   rw[e1,take_left' e2]
  refine⟨some ⟨(κ.ρ b).blk,0,none⟩,(κ.ρ b).cap,(cur.toList.take (zs.length*sz)).take (k*sz),by simp[rowVal,hn,hxl],(fun e=>by cases e),fun e he=>hes e (mem_of_mem_take he),by rw[hfl];exact a5.take _,fun u hu=>a6 u (mem_of_mem_take hu),fun ad e j u hu=>?_⟩
  cases e;rw[add_none rfl]
  show κ.w.cell? ⟨(κ.ρ b).blk,0+j,none⟩=_
  rw[Nat.zero_add,cell_of_row κ.w _ j cur el (0,0) a1]
  rw[getElem?_take]at hu
  split at hu
  ·rw[getElem?_take]at hu
   split at hu
   ·simpa using hu
   ·cases hu
  ·cases hu
theorem sameDrew(w:World):SameW w w.drew:=⟨rfl,rfl,rfl,rfl⟩
theorem set_self{H:Heap}{b:Nat}{x:Blk}(h:H[b]? =some x):H.set b x=H:=by
 apply ext_getElem?
 intro i
 rw[getElem?_set]
 split
 ·rename_i e;subst e
  split
  ·exact h.symm
  ·rw[getElem?_eq_none (by omega)]
 ·rfl
theorem grown_cells{sz cap n:Nat}{olds news:List Value}{z:Value}(ho:(olds++news).length=n*sz)(hz:z.cells.size=sz)(hle:n≤cap):
  (olds.toArray++news.toArray++Builtin.zeroCells z.cells (cap-n)).size=cap*sz∧(olds.toArray++news.toArray++Builtin.zeroCells z.cells (cap-n)).toList.take (n*sz)=olds++news:=by
 constructor
 ·simp only[length_append]at ho
  simp only[Array.size_append,size_toArray,size_zeroCells,hz]
  rw[ho,← Nat.add_mul];congr 1;omega
 ·simp only[Array.toList_append]
  exact take_left' ho
theorem app_ok (hc : Conc κ) {t ty : TypeId} {s x : AV} {cs cx : Value} (hs : V κ s cs) (hx : V κ x cx) {p : Prop} {v : AV} {H' : Heap} (h : appA P κ.H t s x = .ok p v H') (hp : p) :
    ValOk P κ (Builtin.append_ #[t, t] ty #[cs, cx]) v H' := by
  unfold appA at h
  split at h
  · rename_i el sz he
    obtain ⟨hu, hz⟩ := elT_ok he
    split at h
    · rename_i by_ zl q ys hby hzl hsrc
      obtain ⟨i, hi, hisz, hib⟩ := info_of hz hby
      replace hisz : i.size = sz + 1 := hisz
      replace he : elT P t = some (el, sz + 1) := he
      obtain ⟨zc, hzc, hzcl⟩ := Option.map_eq_some_iff.1 hzl
      obtain ⟨i', z, hi', hzz, hzce⟩ := zeroT_ok hzc
      rw [hi] at hi'; cases hi'
      split at h
      · rename_i hok
        obtain ⟨hzl2, hok1, hok2⟩ := hok
        have hzsz : z.cells.size = i.size := by
          have : zc.length = z.cells.size := by rw [hzce]; simp
          omega
        have src : q → ∃ A cap news, cx = .slice A ys.length cap ∧ (A = none → ys = []) ∧ (∀ e ∈ ys, e.length = sz + 1) ∧ VL κ ys.flatten news ∧ (∀ u ∈ news, u.oneCell' = true) ∧ (∀ ad, A = some ad → ∀ j u, news[j]? = some u → κ.w.cell? (ad.add j) = some u) :=
          fun hq => src_ok hc hx hsrc hq hok1 (fun b n el' sz' es sl e hb => by subst e; simp only [okRow, hb, beq_iff_eq] at hok2; exact hok2.symm)
        have grow : ∀ (S0 : Value) (xs : List (List AV)) (olds : List Value) (A : Option Addr) (cap : Nat), S0 = .slice A xs.length cap → (cap < xs.length + ys.length) → ys ≠ [] → q → (∀ e ∈ xs, e.length = sz + 1) → VL κ xs.flatten olds → (A = none → xs = [] ∧ cap = 0) →
            (∀ ad, A = some ad → ∀ j u, olds[j]? = some u → κ.w.cell? (ad.add j) = some u) → (xs.length + ys.length) * by_ ≤ 140737488355328 → xs.length + ys.length ≤ maxLen →
            ∃ cap' cur news, cur.size = cap' * (sz + 1) ∧ xs.length + ys.length ≤ cap' ∧ cap' ≤ maxLen ∧ cur.toList.take ((xs ++ ys).length * (sz + 1)) = olds ++ news ∧ VL κ ys.flatten news ∧ (∀ u ∈ news, u.oneCell' = true) ∧ (∀ e ∈ ys, e.length = sz + 1) ∧
              (Builtin.append_ #[t, t] ty #[S0, cx]).run P κ.w = .ok (.slice (some ⟨κ.w.heap.size, 0, none⟩) (xs.length + ys.length) cap') (κ.w.drew.alloc (.cells cur el)) := by
          intro S0 xs olds A cap e0 hcap hne hq hxs hol hA hcells hb1 hb2
          subst e0
          obtain ⟨B, capB, news, rfl, n1, n2, n3, n4, n5⟩ := src hq
          have hB : ∃ ad, B = some ad := by
            cases B with
            | none => exact absurd (n1 rfl) hne
            | some ad => exact ⟨ad, rfl⟩
          obtain ⟨ad, rfl⟩ := hB
          have hyl : 0 < ys.length := List.length_pos_iff.2 hne
          have hnl : news.length = ys.length * i.size := by rw [← n3.length, hisz]; exact flatten_length ys n2
          have hol2 : olds.length = xs.length * i.size := by rw [← hol.length, hisz]; exact flatten_length xs hxs
          have h63 : xs.length + ys.length ≤ 9223372036854775807 := by unfold maxLen at hb2; exact hb2
          cases A with
          | none =>
            obtain ⟨rfl, rfl⟩ := hA rfl
            have ho : olds = [] := by simp at hol2; exact hol2
            subst ho
            simp only [List.length_nil, Nat.zero_add] at *
            have hr := run_append_nil (P := P) κ.w t ty el i z hu hi hzz ad ys.length capB news hnl (n5 ad rfl) hyl (by omega) (by rw [hib]; omega)
            have hg1 := grownCap_ge κ.w ys.length 0 el
            have hg2 := grownCap_le_maxLen κ.w ys.length 0 el hb2
            have hgc := grown_cells (olds := []) (news := news) (z := z) (sz := i.size) (cap := grownCap κ.w ys.length 0 el) (n := ys.length) (by simpa using hnl) hzsz hg1
            simp only [List.nil_append, Array.empty_append] at hgc
            refine ⟨grownCap κ.w ys.length 0 el, _, news, by rw [← hisz]; exact hgc.1, hg1, hg2, ?_, n3, n4, n2, hr⟩
            rw [← hisz]; simpa using hgc.2
          | some a =>
            have hr := run_append_grow (P := P) κ.w t ty el i z hu hi hzz a xs.length cap olds hol2 (hcells a rfl) ad ys.length capB news hnl (n5 ad rfl) hcap (by omega) (growslice_fits hcap (by rw [hib]; exact hb1))
            have hg1 := grownCap_ge κ.w (xs.length + ys.length) cap el
            have hg2 := grownCap_le_maxLen κ.w (xs.length + ys.length) cap el hb2
            have hgc := grown_cells (olds := olds) (news := news) (z := z) (sz := i.size) (cap := grownCap κ.w (xs.length + ys.length) cap el) (n := xs.length + ys.length) (by rw [length_append, hol2, hnl, Nat.add_mul]) hzsz hg1
            refine ⟨grownCap κ.w (xs.length + ys.length) cap el, _, news, by rw [← hisz]; exact hgc.1, hg1, hg2, ?_, n3, n4, n2, hr⟩
            rw [← hisz, length_append]; exact hgc.2
        split at h
        · -- nil
          simp only [Res.ok.injEq] at h
          obtain ⟨rfl, rfl, rfl⟩ := h
          obtain ⟨hq, hb1, hb2⟩ := hp
          obtain rfl : cs = .slice none 0 0 := hs
          by_cases hne : ys = []
          · subst hne
            obtain ⟨B, capB, news, rfl, _⟩ := src hq
            obtain ⟨κ', k1, k2, k3, k4, k5⟩ := push_nil hc el (sz + 1) none (by omega)
            exact ⟨κ', _, by rw [k1]; exact run_append_nothing he none 0 0 (Nat.le_refl _) B capB κ.w (fun _ _ => trivial), k2, k3, k4, k5⟩
          · obtain ⟨cap', cur, news, g1, g2, g3, g4, g5, g6, g7, g8⟩ := grow _ [] [] none 0 rfl (by simpa using List.length_pos_iff.2 hne) hne hq (by simp) rfl (fun _ => ⟨rfl, rfl⟩) (fun ad e => by cases e) (by simpa using hb1) (by simpa using hb2)
            simp only [List.nil_append, List.length_nil, Nat.zero_add] at g2 g4 g8
            obtain ⟨κ', k1, k2, k3, k4, k5⟩ := push_row hc κ.w.drew el (sz + 1) ys cur cap' (sameDrew _) (by omega) g7 g1 g2 g3 (by rw [g4]; exact g5) (by rw [g4]; exact g6)
            exact ⟨κ', _, by rw [k1]; exact g8, k2, k3, k4, k5⟩
        · -- a full list
          rename_i sz' xs
          split at h
          · rename_i hsz
            subst hsz
            simp only [Res.ok.injEq] at h
            obtain ⟨rfl, rfl, rfl⟩ := h
            obtain ⟨hq, hb1, hb2, hor⟩ := hp
            obtain ⟨A, cap, olds, rfl, m1, m2, m3, m4, m5⟩ := src_ok hc hs (sz := sz + 1) rfl trivial (by simp [okSz]) (fun b n el' sz' es sl e _ => by cases e)
            obtain ⟨A', cap', e1, _, _, q3, q4, q5, _⟩ := hs
            simp only [Value.slice.injEq, true_and] at e1
            obtain ⟨rfl, rfl⟩ := e1
            have hcap := q3 rfl
            subst hcap
            by_cases hne : ys = []
            · subst hne
              have hx0 : xs = [] := hor.resolve_right (fun h => h rfl)
              subst hx0
              obtain ⟨B, capB, news, rfl, _⟩ := src hq
              obtain ⟨κ', k1, k2, k3, k4, k5⟩ := push_nil hc el (sz + 1) A (by omega)
              exact ⟨κ', _, by rw [k1]; exact run_append_nothing he A 0 0 (Nat.le_refl _) B capB κ.w (fun _ _ => trivial), k2, k3, k4, k5⟩
            · obtain ⟨cap', cur, news, g1, g2, g3, g4, g5, g6, g7, g8⟩ := grow _ xs olds A xs.length rfl (by have := List.length_pos_iff.2 hne; omega) hne hq m2 m3 (fun e => ⟨m1 e, by rw [m1 e]; rfl⟩) m5 hb1 hb2
              obtain ⟨κ', k1, k2, k3, k4, k5⟩ := push_row hc κ.w.drew el (sz + 1) (xs ++ ys) cur cap' (sameDrew _) (by omega) (fun e he => (List.mem_append.1 he).elim (m2 e) (g7 e)) g1 (by simpa using g2) g3 (by rw [g4, flatten_append]; exact m3.append g5) (by rw [g4]; exact fun u hu => (List.mem_append.1 hu).elim (m4 u) (g6 u))
              exact ⟨κ', _, by rw [k1]; exact g8, k2, k3, k4, by simpa using k5⟩
          · cases h
        · -- a row
          rename_i b n
          split at h
          · rename_i el' sz' xs sl hb
            split at h
            · rename_i hsz
              obtain ⟨rfl, rfl⟩ := hsz
              simp only [Res.ok.injEq] at h
              obtain ⟨rfl, rfl, rfl⟩ := h
              obtain ⟨hq, hxn, hb1, hb2⟩ := hp
              subst hxn
              obtain ⟨_, hxs, hnil, hrow⟩ := hc.blk b _ hb
              obtain ⟨_, el'', sz'', es'', sl'', hb', hle, e⟩ := id hs
              rw [hb] at hb'; cases hb'
              have hv := e rfl
              subst hv
              by_cases hne : ys = []
              · subst hne
                obtain ⟨B, capB, news, rfl, _⟩ := src hq
                refine ⟨κ, _, ?_, hc, .refl κ, ?_, by simpa using hs⟩
                · refine run_append_nothing he _ xs.length _ ?_ B capB κ.w (fun _ _ => trivial)
                  cases hn : (κ.ρ b).isNil with
                  | true => rw [(hnil hn).2]; simp
                  | false => obtain ⟨⟨_, _, _, a3, _⟩, _⟩ := hrow hn; exact a3
                · simp only [List.append_nil]; exact (set_self hb).symm
              · have hyl : 0 < ys.length := List.length_pos_iff.2 hne
                obtain ⟨A, cap, olds, e1, m1, m2, m3, m4, m5⟩ := src_ok hc hs (sz := sz + 1) (q := xs.length = xs.length) (ys := xs) (by simp [srcA, hb]) rfl (by simp [okSz]) (fun b' n' el' sz' es sl e hb' => by cases e; rw [hb] at hb'; cases hb'; rfl)
                by_cases hgrow : (κ.ρ b).cap < xs.length + ys.length
                · obtain ⟨cap', cur, news, g1, g2, g3, g4, g5, g6, g7, g8⟩ := grow (rowVal (κ.ρ b) xs.length) xs olds A (κ.ρ b).cap (by rw [e1]; simp [rowVal] at e1; simp [e1.2]) hgrow hne hq m2 m3 (fun e => ⟨m1 e, by
                      cases hn : (κ.ρ b).isNil with
                      | true => exact (hnil hn).1
                      | false => simp [rowVal, hn, e] at e1⟩) m5 hb1 hb2
                  obtain ⟨κ', k1, k2, k3, k4, k5⟩ := mod_new hc hb (es := xs ++ ys) κ.w.drew cur cap' (sameDrew _) (by omega) (fun e he => (List.mem_append.1 he).elim (m2 e) (g7 e)) g1 (by simpa using g2) g3 (by simp; omega) (by rw [g4, flatten_append]; exact m3.append g5) (by rw [g4]; exact fun u hu => (List.mem_append.1 hu).elim (m4 u) (g6 u))
                  exact ⟨κ', _, by rw [k1]; exact g8, k2, k3, k4, by simpa using k5⟩
                · have hn : (κ.ρ b).isNil = false := by
                    cases hn : (κ.ρ b).isNil with
                    | true => have := hnil hn; rw [this.1] at hgrow; omega
                    | false => rfl
                  obtain ⟨⟨cur, a1, a2, a3, a4, a5, a6⟩, _, _⟩ := hrow hn
                  obtain ⟨B, capB, news, rfl, n1, n2, n3, n4, n5⟩ := src hq
                  have hB : ∃ ad, B = some ad := by
                    cases B with
                    | none => exact absurd (n1 rfl) hne
                    | some ad => exact ⟨ad, rfl⟩
                  obtain ⟨ad, rfl⟩ := hB
                  have hnl : news.length = ys.length * (sz + 1) := by rw [← n3.length]; exact flatten_length ys n2
                  obtain ⟨κ', k1, k2, k3, k4, k5⟩ := mod_room hc hb hn n2 news n3 n4 (by omega) cur a1
                  have hr := run_append_room (P := P) κ.w t ty el' i hu hi (κ.ρ b).blk xs.length (κ.ρ b).cap cur a1 ad ys.length capB news (by rw [hisz]; exact hnl) (n5 ad rfl) n4 (by omega) (by rw [hisz, a2, hnl, ← Nat.add_mul]; exact Nat.mul_le_mul_right _ (by omega))
                  rw [hisz] at hr
                  exact ⟨κ', _, by rw [k1]; simpa [rowVal, hn] using hr, k2, k3, k4, k5⟩
            · cases h
          · cases h
        · -- a row that may shrink
          rename_i b n g
          split at h
          · rename_i el' sz' zs g' hb
            split at h
            · rename_i hsz
              obtain ⟨rfl, rfl⟩ := hsz
              simp only [Res.ok.injEq] at h
              obtain ⟨rfl, rfl, rfl⟩ := h
              obtain ⟨hq, rfl, hb1, hb2, hne⟩ := hp
              obtain ⟨_, hzs, hnil, hrow⟩ := hc.blk b _ hb
              obtain ⟨_, el'', sz'', es'', g'', hb', hle, e⟩ := id hs
              rw [hb] at hb'; cases hb'
              obtain ⟨hnz, rfl⟩ := e rfl
              have hyl : 0 < ys.length := List.length_pos_iff.2 hne
              obtain ⟨A, cap, olds, e1, m1, m2, m3, m4, m5⟩ := srcG_ok hc hb n hnz
              have hxl : (zs.take n).length = n := by rw [length_take]; omega
              generalize hxs : zs.take n = xs at *
              subst hxl
              by_cases hgrow : (κ.ρ b).cap < xs.length + ys.length
              · obtain ⟨cap', cur, news, g1, g2, g3, g4, g5, g6, g7, g8⟩ := grow (rowVal (κ.ρ b) xs.length) xs olds A (κ.ρ b).cap (by rw [e1]; simp [rowVal] at e1; simp [e1.2]) hgrow hne hq m2 m3 (fun e => ⟨m1 e, by
                    cases hn : (κ.ρ b).isNil with
                    | true => exact (hnil hn).1
                    | false => simp [rowVal, hn, e] at e1⟩) m5 hb1 hb2
                obtain ⟨κ', k1, k2, k3, k4, k5⟩ := mod_newG hc hb (es := xs ++ ys) κ.w.drew cur cap' (sameDrew _) (by omega) (fun e he => (List.mem_append.1 he).elim (m2 e) (g7 e)) g1 (by simpa using g2) g3 (by rw [g4, flatten_append]; exact m3.append g5) (by rw [g4]; exact fun u hu => (List.mem_append.1 hu).elim (m4 u) (g6 u))
                exact ⟨κ', _, by rw [k1]; exact g8, k2, k3, k4, by simpa using k5⟩
              · have hn : (κ.ρ b).isNil = false := by
                  cases hn : (κ.ρ b).isNil with
                  | true => have := hnil hn; rw [this.1] at hgrow; omega
                  | false => rfl
                obtain ⟨⟨cur, a1, a2, a3, a4, a5, a6⟩, _⟩ := hrow hn
                obtain ⟨B, capB, news, rfl, n1, n2, n3, n4, n5⟩ := src hq
                have hB : ∃ ad, B = some ad := by
                  cases B with
                  | none => exact absurd (n1 rfl) hne
                  | some ad => exact ⟨ad, rfl⟩
                obtain ⟨ad, rfl⟩ := hB
                have hnl : news.length = ys.length * (sz + 1) := by rw [← n3.length]; exact flatten_length ys n2
                obtain ⟨κ', k1, k2, k3, k4, k5⟩ := mod_roomG hc hb hn xs.length hnz hxs.symm n2 news n3 n4 (by omega) cur a1
                have hr := run_append_room (P := P) κ.w t ty el' i hu hi (κ.ρ b).blk xs.length (κ.ρ b).cap cur a1 ad ys.length capB news (by rw [hisz]; exact hnl) (n5 ad rfl) n4 (by omega) (by rw [hisz, a2, hnl, ← Nat.add_mul]; exact Nat.mul_le_mul_right _ (by omega))
                rw [hisz] at hr
                exact ⟨κ', _, by rw [k1]; simpa [rowVal, hn] using hr, k2, k3, k4, k5⟩
            · cases h
          · cases h
        · cases h
      · cases h
    · cases h
  · cases h
end
section
variable {P:Program} {κ:Cx}
mutual
theorem PV.of_v: ∀(v:AV) (c:Value),v.pure=true→V κ v c→PV κ.S κ.w v c
 | .any,_,_,_=>trivial
 | .int _ _,_,_,hv=>hv
 | .bool _,_,_,hv=>hv
 | .nilS,_,_,hv=>hv
 | .nilP,_,_,hv=>hv
 | .nilF,_,_,hv=>hv
 | .agg cs,_,hp,⟨a,e,hl⟩=>⟨a,e,PVL.of_v cs _ hp hl⟩
 | .tup cs,_,hp,⟨a,e,hl⟩=>⟨a,e,PVL.of_v cs _ hp hl⟩
 | .lst _ _ _,_,_,hv=>hv
 | .row _ _,_,hp,_=>by simp[AV.pure]at hp
 | .pp _,_,_,hv=>hv
 | .lp _ _,_,hp,_=>by simp[AV.pure]at hp
 | .rp _ _ _ _,_,hp,_=>by simp[AV.pure]at hp
 | .rg _ _ _,_,hp,_=>by simp[AV.pure]at hp
 | .fn _ caps,_,hp,⟨a,e,hl⟩=>⟨a,e,PVL.of_v caps _ hp hl⟩
 | .bf _ caps,_,hp,⟨a,e,hl⟩=>⟨a,e,PVL.of_v caps _ hp hl⟩
 | .yld _,_,hp,_=>by simp[AV.pure]at hp
 | .mp _,_,hp,_=>by simp[AV.pure]at hp
 | .val _,_,hp,_=>by simp[AV.pure]at hp
 | .pm _ _ _ _,_,_,hv=>hv
 | .alt _,_,_,hv=>hv
 | .lf _,_,_,hv=>hv
 | .ifc _ caps,_,hp,⟨a,e,hl⟩=>⟨a,e,PVL.of_v caps _ hp hl⟩
theorem PVL.of_v: ∀(vs:List AV) (l:List Value),AV.pureL vs=true→VL κ vs l→PVL κ.S κ.w vs l
 |[],_,_,hv=>hv
 |v::vs,_,hp,⟨c,cs,e,h1,h2⟩=>by
  simp only[AV.pureL,Bool.and_eq_true]at hp
  exact⟨c,cs,e,PV.of_v v c hp.1 h1,PVL.of_v vs cs hp.2 h2⟩
end
theorem pvc_of{S:Nat→Nat→Prop}{w:World}{g:Nat}: ∀(cs:List AV) (l:List Value) (off:Nat),PVL S w cs l→(∀u∈l,u.oneCell'=true)→(∀(j:Nat) (u:Value),l[j]? =some u→w.cell? ⟨g,off+j,none⟩=some u∧S g (off+j))→PVC S w cs ⟨g,off,none⟩
 |[],_,_,_,_,_=>trivial
 |v::vs,_,off,⟨c,cs,e,h1,h2⟩,ho,hc=>by
  subst e
  have h0:=hc 0 c rfl
  refine⟨⟨c,h0.1,h0.2,ho c (by simp),h1⟩,pvc_of vs cs (off+1) h2 (fun u hu=>ho u (by simp[hu])) (fun j u hu=>?_)⟩
  have:=hc (j+1) u (by simpa using hu)
  rwa[show off+(j+1)=off+1+j from by omega]at this
theorem PVC.take{S:Nat→Nat→Prop}{w:World}: ∀(n:Nat) (cs:List AV) (ad:Addr),PVC S w cs ad→PVC S w (cs.take n) ad
 |0,_,_,_=>trivial
 |_+1,[],_,_=>trivial
 |n+1,_::cs,_,⟨h1,h2⟩=>⟨h1,PVC.take n cs _ h2⟩
theorem pve_of{S:Nat→Nat→Prop}{w:World}{sz:Nat}: ∀(n:Nat) (cs:List AV) (ad:Addr),ad.spot=none→PVC S w cs ad→PVE S w sz (chunks sz n cs) ad
 |0,_,_,_,_=>trivial
 |n+1,cs,ad,hs,h=>⟨h.take sz,pve_of n _ _ rfl (h.drop sz cs ad hs)⟩
theorem chunks_length(sz:Nat): ∀(n:Nat) (cs:List AV),(chunks sz n cs).length=n
 |0,_=>rfl
 |n+1,cs=>by simp[chunks,chunks_length sz n]
theorem chunks_each{sz:Nat}: ∀(n:Nat) (cs:List AV),n*sz≤cs.length→ ∀e∈chunks sz n cs,e.length=sz
 |0,_,_,e,he=>by simp[chunks]at he
 |n+1,cs,h,e,he=>by
  rw[Nat.add_mul]at h
  simp only[chunks,List.mem_cons]at he
  rcases he with rfl|he
  ·simp;omega
  ·exact chunks_each n _ (by simp;omega) e he
theorem chunks_flat{sz:Nat}: ∀(n:Nat) (cs:List AV),cs.length=n*sz→(chunks sz n cs).flatten=cs
 |0,cs,h=>by
  have:cs=[]:=eq_nil_of_length_eq_zero (by simpa using h)
  subst this;rfl
 |n+1,cs,h=>by
  rw[Nat.add_mul]at h
  rw[chunks,flatten_cons,chunks_flat n _ (by simp;omega),List.take_append_drop]
theorem rep_get{α:Type}(l:List α): ∀(n j:Nat),j<n*l.length→((List.replicate n l).flatten)[j]? =l[j % l.length]?
 |0,j,h=>by simp at h
 |n+1,j,h=>by
  rw[List.replicate_succ,flatten_cons]
  by_cases hj:j<l.length
  ·rw[List.getElem?_append_left hj,Nat.mod_eq_of_lt hj]
  ·rw[List.getElem?_append_right (by omega),rep_get l n (j-l.length) (by rw[Nat.add_mul]at h;omega)]
   rw[Nat.mod_eq_sub_mod (by omega:l.length≤j)]
theorem rep_cells(z:Array Value)(n:Nat):((Array.range (n*z.size)).map (z[· % z.size]!)).toList=(List.replicate n z.toList).flatten:=by
 apply ext_getElem?
 intro j
 by_cases hj:j<n*z.size
 ·have hz:0<z.size:=by
   rcases Nat.eq_zero_or_pos z.size with h|h
   ·rw[h]at hj;simp at hj
   ·exact h
  rw[rep_get z.toList n j (by simpa using hj)]
  have hm:j % z.size<z.size:=Nat.mod_lt _ hz
  simp[hj,hm]
 ·rw[getElem?_eq_none (by simp;omega),getElem?_eq_none (by simp;omega)]
theorem rep_ok{z:List AV}{zc:List Value}(h:VL κ z zc): ∀n,VL κ ((List.replicate n z).flatten) ((List.replicate n zc).flatten)
 |0=>rfl
 |n+1=>by rw[List.replicate_succ,List.replicate_succ,flatten_cons,flatten_cons];exact h.append (rep_ok h n)
theorem make_ok(hc:Conc κ){t:TypeId}{x y:Operand}{env:Env}{ρv:Operand→Value}(hρ:Rho κ env ρv){p:Prop}{v:AV}{H':Heap}(h:evOp P env κ.H (.makeSlice t x y)= .ok p v H')(hp:p):
  ValOk P κ (Instr.makeSlice t (ρv x) (ρv y)) v H':=by
 simp only[evOp]at h
 split at h
 ·rename_i e sz l c he hl hcc
  obtain⟨hu,hz⟩:=elT_ok he
  split at h
  ·rename_i z by_ hzt hby
   split at h
   ·rename_i hcond
    obtain⟨c1,c2⟩:=hcond
    simp only[Res.ok.injEq]at h
    obtain⟨rfl,rfl,rfl⟩:=h
    obtain⟨p1,rfl,p2,p3⟩:=hp
    obtain⟨i,hi,hs,hb⟩:=info_of hz hby
    obtain⟨i',zv,hi',hzz,rfl⟩:=zeroT_ok hzt
    rw[hi]at hi';cases hi'
    have e1:=intA_ok hl (hρ.ev x)
    have e2:=intA_ok hcc (hρ.ev y)
    have hzl:zv.cells.size=sz+1:=by simpa using c1
    obtain⟨n,rfl⟩:=Int.eq_ofNat_of_zero_le p1
    have hw:IntKind.i64.wrap (n:Int)=n:=wrap_i64 ⟨by omega,by omega⟩
    have hbl:((i.bytes:Int)*(n:Int))≤1000000:=by rw[hb,Int.mul_comm];exact p3
    have hbn:n*i.bytes≤1000000:=by rw[←hb]at p3;rw[←Int.natCast_mul]at p3;omega
    have t1: ¬((n:Int)<0):=by omega
    have t2: ¬((i.bytes:Int)*(n:Int) > 281474976710656):=by omega
    have t3: ¬(n*i.bytes > 140737488355328):=by omega
    have hcells:=rep_cells zv.cells n
    have hone: ∀u∈zv.cells.toList,u.oneCell'=true:=VL.one_all (absL_ok κ zv.cells.toList) c2
    have hflat:=rep_ok (absL_ok κ zv.cells.toList) n
    have hlen:((Array.range (n*zv.cells.size)).map (zv.cells[· % zv.cells.size]!)).size=n*(sz+1):=by simp[hzl]
    obtain⟨κ',k1,k2,k3,k4,k5⟩:=push_row hc κ.w e (sz+1) (List.replicate n (zv.cells.toList.map abs1)) ((Array.range (n*zv.cells.size)).map (zv.cells[· % zv.cells.size]!)) n ⟨rfl,rfl,rfl,rfl⟩ (by omega)
     (fun e he=>by rw[List.eq_of_mem_replicate he];simp[hzl]) hlen (by simp) (by simp only[maxLen];omega)
     (by rw[List.length_replicate,take_of_length_le (by rw[Array.length_toList,hlen];exact Nat.le_refl _),hcells];exact hflat)
     (by
      rw[List.length_replicate,take_of_length_le (by rw[Array.length_toList,hlen];exact Nat.le_refl _),hcells]
      intro u hu
      obtain⟨l,hl1,hl2⟩:=List.mem_flatten.1 hu
      rw[List.eq_of_mem_replicate hl1]at hl2
      exact hone u hl2)
    refine⟨κ',.slice (some ⟨κ.w.heap.size,0,none⟩) n n,?_,k2,k3,by simpa using k4,by simpa using k5⟩
    rw[k1,e1,e2]
    by_cases hn:n=0
    ·subst hn
     have hw0:IntKind.i64.wrap 0=0:=hw
     have hr0: ∀f g:Nat→Value,(Array.range 0).map f=(Array.range 0).map g:=fun f g=>by simp[Array.range]
     simp[Instr.makeSlice,run_underlying hu,asInt,asIntOf,typeInfo,hi,hw0,askRoom,roomBytes,sizeOf,newRow]
     rw[hr0]
    ·simp[Instr.makeSlice,run_underlying hu,asInt,asIntOf,typeInfo,hi,hw,askRoom,roomBytes,sizeOf,newRow,t1,t2,t3,hn,hs,zeroValue,hzz,hzl]
     intro hx
     exact absurd hx (Nat.mul_ne_zero hn (by omega))
   ·cases h
  ·cases h
 ·cases h
theorem sliArr_ok(hc:Conc κ){t e:TypeId}{n:Nat}(ha:arT P t=some (n,e,1)){cs:List AV}{c:Value}(hx:V κ (.pp cs) c)(h0:0<n)(hn:n≤cs.length)(hm:n≤maxLen):
  ValOk P κ (Instr.sliceAt t c none none none) (.lst true 1 (chunks 1 n cs)) κ.H:=by
 obtain⟨hu,hz⟩:=arT_ok ha
 obtain⟨ad,rfl,hs,hp⟩:=(show PV κ.S κ.w (.pp cs) c from hx)
 have hn0: ¬n=0:=by omega
 have hadd:ad.add 0=ad:=by rw[add_none hs];cases ad;simp_all
 refine .same hc (c:= .slice (some ad) n n) ?_ ?_
 ·simp[Instr.sliceAt,Sem.run_bind,run_underlying hu,Instr.sureAddr,Instr.sliceBounds,run_sizeOf hz,Result.andThen,hn0,hadd]
 ·exact⟨some ad,n,by rw[chunks_length],by rw[chunks_length];exact Nat.le_refl _,hm,fun _=>by rw[chunks_length],fun ad' ha'=>by cases ha';exact⟨fun _=>hs,pve_of n _ _ hs hp⟩,(fun e=>by cases e),chunks_each n cs (by omega)⟩
theorem buildSlice_ok(hc:Conc κ){t:TypeId}{len:Nat}{parts:Array (Nat×Operand)}{env:Env}{ρv:Operand→Value}(hρ:Rho κ env ρv){p:Prop}{v:AV}{H':Heap}(h:evOp P env κ.H (.buildSlice t len parts)= .ok p v H'):
  ValOk P κ (Instr.buildSlice t len (parts.map fun(i,x)=>(i,ρv x))) v H':=by
 simp only[evOp]at h
 split at h
 ·rename_i e sz he
  obtain⟨hu,hz⟩:=elT_ok he
  split at h
  ·rename_i z hzt
   split at h
   ·rename_i hcond
    obtain⟨c1,c2,c3⟩:=hcond
    split at h
    ·rename_i out hout
     split at h
     ·rename_i hone
      simp only[Res.ok.injEq]at h
      obtain⟨_,rfl,rfl⟩:=h
      obtain⟨i,hi,hs⟩:=Option.map_eq_some_iff.1 hz
      obtain⟨i',zv,hi',hzz,rfl⟩:=zeroT_ok hzt
      rw[hi]at hi';cases hi'
      have hzl:zv.cells.size=sz:=by simpa using c1
      have hcells:=rep_cells zv.cells len
      rw[hzl]at hcells
      have hflat:=rep_ok (absL_ok κ zv.cells.toList) len
      rw[←hcells]at hflat
      obtain⟨cells',f1,f2⟩:=fillA_ok _ (parts.map fun(i,x)=>(i,ρv x)).toList _ _ _ (by simp) (parts_ok hρ parts) hflat hout
      obtain⟨s1,s2⟩:=hc.sld (.cells cells' e)
      have hk:=s2.toKeep
      have hpv:=PVL.of_v (κ:={ κ with S:=fun g k=>κ.S g k∨g=κ.w.heap.size,w:=κ.w.alloc (.cells cells' e) }) _ _ hone.1.2 (VL.mono hk _ _ f2)
      have holen:out.length=len*sz:=by
       have h1:=f2.length
       have h2:=hflat.length
       have h3: ∀(ps:List (Nat×AV)) (cs o:List AV),fillA (fun i=>some (i*sz,sz)) cs ps=some o→o.length=cs.length:=by
        intro ps
        induction ps with
        |nil=>intro cs o ho;simp only[fillA,Option.some.injEq]at ho;rw[ho]
        |cons p ps ih=>
         intro cs o ho
         simp only[fillA]at ho
         split at ho
         ·split at ho
          ·rename_i hh
           rw[ih _ _ ho,setL_length (by omega)]
          ·cases ho
         ·cases ho
       rw[h3 _ _ _ hout,h2];simp
      refine⟨_,.slice (some ⟨κ.w.heap.size,0,none⟩) len len,?_,s1,s2,rfl,⟨some ⟨κ.w.heap.size,0,none⟩,len,by rw[chunks_length],by rw[chunks_length];exact Nat.le_refl _,?_,fun _=>by rw[chunks_length],fun ad ha=>?_,(fun e=>by cases e),chunks_each len out (by omega)⟩⟩
      ·by_cases hl:len=0
       ·subst hl
        have hps:parts= #[]:=by
         have:(parts.toList.map fun p=>(p.1,evA env p.2))=[]:=by
          cases hq:(parts.toList.map fun p=>(p.1,evA env p.2))with
          |nil=>rfl
          |cons q qs=>
           rw[hq]at hout
           obtain⟨a,b⟩:=q
           simp only[fillA]at hout
           split at hout
           ·rename_i o n vs e1 e2
            simp only[Option.some.injEq,Prod.mk.injEq]at e1
            split at hout
            ·rename_i hh;simp at hh;omega
            ·cases hout
           ·cases hout
         simpa using this
        subst hps
        have hr0: ∀f:Nat→Value,(Array.range 0).map f= #[]:=fun f=>by simp[Array.range]
        have:cells'= #[]:=by
         have:=f1.symm
         simp only[Instr.fill,Array.map_empty,Option.some.injEq,Nat.zero_mul]at this
         rw[this];exact hr0 _
        subst this
        simp[Instr.buildSlice,run_underlying hu,sizeOf,typeInfo,hi,Instr.fill,newRow]
        rw[hr0]
       ·have hpos:len*sz≠0:=Nat.mul_ne_zero hl (by omega)
        refine run_buildSlice κ.w t e len _ cells' i zv hu hi hzz (by rw[hs];omega) (by rw[hs];exact hpos) ?_
        rw[hs,hzl]
        exact f1
      ·simp only[maxLen]
       have:len*1≤len*sz:=Nat.mul_le_mul_left _ c3
       omega
      ·cases ha
       refine⟨fun _=>rfl,pve_of len out _ rfl (pvc_of out _ 0 hpv (VL.one_all f2 hone.1.1) (fun j u hu=>⟨?_,.inr rfl⟩))⟩
       rw[Nat.zero_add]
       have:=cell_of_row (κ.w.alloc (.cells cells' e)) κ.w.heap.size j cells' e (0,0) (heap_alloc_new _ _)
       simp only at this ⊢
       rw[this];simpa using hu
     ·split at h
      ·rename_i hone
       simp only[Res.ok.injEq]at h
       obtain⟨_,rfl,rfl⟩:=h
       obtain⟨_,hone,hlp⟩:=hone
       obtain⟨i,hi,hs⟩:=Option.map_eq_some_iff.1 hz
       obtain⟨i',zv,hi',hzz,rfl⟩:=zeroT_ok hzt
       rw[hi]at hi';cases hi'
       have hzl:zv.cells.size=sz:=by simpa using c1
       have hcells:=rep_cells zv.cells len
       rw[hzl]at hcells
       have hflat:=rep_ok (absL_ok κ zv.cells.toList) len
       rw[←hcells]at hflat
       obtain⟨cells',f1,f2⟩:=fillA_ok _ (parts.map fun(i,x)=>(i,ρv x)).toList _ _ _ (by simp) (parts_ok hρ parts) hflat hout
       have holen:out.length=len*sz:=by
        have h2:=hflat.length
        have h3: ∀(ps:List (Nat×AV)) (cs o:List AV),fillA (fun i=>some (i*sz,sz)) cs ps=some o→o.length=cs.length:=by
         intro ps
         induction ps with
         |nil=>intro cs o ho;simp only[fillA,Option.some.injEq]at ho;rw[ho]
         |cons p ps ih=>
          intro cs o ho
          simp only[fillA]at ho
          split at ho
          ·split at ho
           ·rename_i hh
            rw[ih _ _ ho,setL_length (by omega)]
           ·cases ho
          ·cases ho
        rw[h3 _ _ _ hout,h2];simp
       have hcl:=f2.length
       have hfl:(chunks sz len out).flatten=out:=chunks_flat len out holen
       have hsz:cells'.size=len*sz:=by rw[←holen,hcl,Array.length_toList]
       obtain⟨κ',k1,k2,k3,k4,k5⟩:=push_row hc κ.w e sz (chunks sz len out) cells' len ⟨rfl,rfl,rfl,rfl⟩ c3
        (chunks_each len out (by omega)) hsz (by rw[chunks_length];exact Nat.le_refl _) (by
         simp only[maxLen]
         have:len*1≤len*sz:=Nat.mul_le_mul_left _ c3
         omega)
        (by rw[chunks_length,take_of_length_le (by rw[Array.length_toList,hsz];exact Nat.le_refl _),hfl];exact f2)
        (by
         rw[chunks_length,take_of_length_le (by rw[Array.length_toList,hsz];exact Nat.le_refl _)]
         exact VL.one_all f2 hone)
       refine⟨κ',.slice (some ⟨κ.w.heap.size,0,none⟩) len len,?_,k2,k3,by simpa using k4,by simpa[chunks_length]using k5⟩
       rw[k1]
       have hpos:len*sz≠0:=Nat.mul_ne_zero (by omega) (by omega)
       refine run_buildSlice κ.w t e len _ cells' i zv hu hi hzz (by rw[hs];omega) (by rw[hs];exact hpos) ?_
       rw[hs,hzl]
       exact f1
      ·cases h
    ·cases h
   ·cases h
  ·cases h
 ·cases h
end
section
variable {P:Program} {κ:Cx}
theorem strT_ok{t:TypeId}(h:strT P t=true):P.underlying t=some .string:=by unfold strT at h;split at h<;>simp_all
theorem ptrT_ok{t:TypeId}(h:ptrT P t=true): ∃e,P.underlying t=some (.pointer e):=by
 unfold ptrT at h;split at h
 ·exact⟨_,‹_›⟩
 ·cases h
theorem ifaT_ok{t:TypeId}(h:ifaT P t=true): ∃e,P.underlying t=some (.interface e):=by
 unfold ifaT at h;split at h
 ·exact⟨_,‹_›⟩
 ·cases h
theorem conT_ok{t:TypeId}(h:conT P t=true): ∃e,P.underlying t=some e∧ ∀m,e≠ .interface m:=by
 unfold conT at h;split at h
 ·cases h
 ·rename_i e hn he
  exact⟨e,he,fun m hm=>hn m hm⟩
 ·cases h
theorem mthT_run{t:TypeId}{name:String}{g:FuncId}(h:mthT P t name=some g)(x:Value)(n:Nat)(w:World):(method (n+1) t x name).run P w= .ok (g,x) w:=by
 unfold mthT at h
 split at h
 ·rename_i i hi
  split at h
  ·rename_i m hm
   split at h
   ·rename_i f hp hf hc
    simp only[Option.some.injEq]at h
    subst h
    simp only[Bool.and_eq_true,Bool.not_eq_true']at hc
    obtain⟨e,he,hne⟩:=conT_ok hc.1
    have hnp: ∀q,e≠ .pointer q:=fun q hq=>by
     have:=hc.2
     unfold ptrT at this
     rw[he,hq]at this
     cases this
    have hrec: ∀nm,(receiverAt t (.val x) false nm).run P w= .ok x w:=by
     intro nm
     unfold receiverAt
     simp only[Sem.run_bind,run_underlying he,Result.andThen]
     cases e<;>first|(exact absurd rfl (hnp _))|simp[Place.get]
    have hpe:m.path.isEmpty=true:=by simp[Array.isEmpty_iff,Array.toList_eq_nil_iff.1 hp]
    unfold method
    have hti:(typeInfo t).run P w= .ok i w:=run_typeInfo w hi
    simp[Sem.run_bind,Result.andThen,hti,hm,hp,follow,hf,hpe,hrec]
   ·cases h
  ·cases h
 ·cases h
theorem run_eqX{t:TypeId}{x y:Value}{b:Bool}(h: ∀d w,(Op.equalIn (d+1) t x y).run P w= .ok b w)(hg: ∀op w ox oy,(eqGuard op t ox oy x y).run P w= .ok () w)(h1: ∀w,(binOp .eql t x y).run P w=(do pure (.bool (←Op.equal t x y)):Sem Value).run P w)(h2: ∀w,(binOp .neq t x y).run P w=(do pure (.bool (!(←Op.equal t x y))):Sem Value).run P w)(ox oy:Operand)(w:World):
  (do eqGuard .eql t ox oy x y;binOp .eql t x y:Sem Value).run P w= .ok (.bool b) w∧(do eqGuard .neq t ox oy x y;binOp .neq t x y:Sem Value).run P w= .ok (.bool (!b)) w:=by
 have e:(Op.equal t x y).run P w= .ok b w:=h 9999 w
 constructor
 ·rw[Sem.run_bind,hg];simp only[Result.andThen];rw[h1,Sem.run_bind,e];rfl
 ·rw[Sem.run_bind,hg];simp only[Result.andThen];rw[h2,Sem.run_bind,e];rfl
theorem eqX_ok(hc:Conc κ){t:TypeId}{x y:AV}{cx cy:Value}{b:Bool}(hx:V κ x cx)(hy:V κ y cy){ox oy:Operand}(h:eqX P t x y oy=some b):
  (do eqGuard .eql t ox oy cx cy;binOp .eql t cx cy:Sem Value).run P κ.w= .ok (.bool b) κ.w∧(do eqGuard .neq t ox oy cx cy;binOp .neq t cx cy:Sem Value).run P κ.w= .ok (.bool (!b)) κ.w:=by
 unfold eqX at h
 split at h
 ·split at h
  ·rename_i ht
   cases h
   obtain⟨e,he⟩:=ptrT_ok ht
   obtain rfl:cx= .pointer none:=hx
   obtain rfl:cy= .pointer none:=hy
   exact run_eqX (fun d w=>by unfold Op.equalIn;simp[Sem.run_bind,run_underlying he,Result.andThen]) (fun op w ox oy=>by cases op<;>simp[eqGuard]) (fun w=>rfl) (fun w=>rfl) ox oy κ.w
  ·cases h
 ·split at h
  ·rename_i ht
   cases h
   obtain⟨e,he⟩:=ptrT_ok ht
   obtain⟨ad,rfl,_⟩:=hx
   obtain rfl:cy= .pointer none:=hy
   exact run_eqX (fun d w=>by unfold Op.equalIn;simp[Sem.run_bind,run_underlying he,Result.andThen]) (fun op w ox oy=>by cases op<;>simp[eqGuard]) (fun w=>rfl) (fun w=>rfl) ox oy κ.w
  ·cases h
 ·split at h
  ·rename_i ht
   cases h
   obtain⟨e,he⟩:=ptrT_ok ht
   obtain⟨_,_,_,_,rfl⟩:=hx
   obtain rfl:cy= .pointer none:=hy
   exact run_eqX (fun d w=>by unfold Op.equalIn;simp[Sem.run_bind,run_underlying he,Result.andThen]) (fun op w ox oy=>by cases op<;>simp[eqGuard]) (fun w=>rfl) (fun w=>rfl) ox oy κ.w
  ·cases h
 ·split at h
  ·rename_i ht
   cases h
   obtain⟨e,he⟩:=ptrT_ok ht
   obtain⟨⟨A,rfl⟩,_⟩:=hx
   obtain rfl:cy= .pointer none:=hy
   exact run_eqX (fun d w=>by unfold Op.equalIn;simp[Sem.run_bind,run_underlying he,Result.andThen]) (fun op w ox oy=>by cases op<;>simp[eqGuard]) (fun w=>rfl) (fun w=>rfl) ox oy κ.w
  ·cases h
 ·split at h
  ·rename_i ht
   cases h
   obtain⟨e,he⟩:=ifaT_ok ht
   obtain rfl:cx= .nilIface:=hx
   obtain rfl:cy= .nilIface:=hy
   have q:=fun d w=>(show(Op.equalIn (d+1) t .nilIface .nilIface).run P w= .ok true w from by unfold Op.equalIn;simp[Sem.run_bind,run_underlying he,Result.andThen])
   have e:=q 9999 κ.w
   have e:(Op.equal t .nilIface .nilIface).run P κ.w= .ok true κ.w:=e
   constructor<;>(simp only[Sem.run_bind,eqGuard,binOp];simp[Sem.run_bind,Result.andThen,e])
  ·cases h
 ·split at h
  ·rename_i ht
   cases h
   obtain⟨e,he⟩:=ifaT_ok ht
   obtain⟨a,p,rfl⟩:=(show∃t p,cx=Value.iface t p from hx)
   obtain rfl:cy= .nilIface:=hy
   exact run_eqX (fun d w=>by unfold Op.equalIn;simp[Sem.run_bind,run_underlying he,Result.andThen]) (fun op w ox oy=>by cases op<;>simp[eqGuard]) (fun w=>rfl) (fun w=>rfl) ox oy κ.w
  ·cases h
 ·split at h
  ·rename_i ht
   cases h
   obtain⟨e,he⟩:=ifaT_ok ht
   obtain⟨a,rfl,_⟩:=hx
   obtain rfl:cy= .nilIface:=hy
   exact run_eqX (fun d w=>by unfold Op.equalIn;simp[Sem.run_bind,run_underlying he,Result.andThen]) (fun op w ox oy=>by cases op<;>simp[eqGuard]) (fun w=>rfl) (fun w=>rfl) ox oy κ.w
  ·cases h
 ·cases h
theorem eqY_ok(hc:Conc κ){op:BinOp}{t:TypeId}{x y:AV}{cx cy:Value}{p:Prop}{v:AV}{H':Heap}(hx:V κ x cx)(hy:V κ y cy){ox oy:Operand}(h:eqY P κ.H op t x y (eqX P t x y oy)= .ok p v H'):
  ValOk P κ (do eqGuard op t ox oy cx cy;binOp op t cx cy) v H':=by
 unfold eqY at h
 split at h
 ·rename_i b hb
  have:=eqX_ok (ox:=ox) hc hx hy hb
  split at h
  ·simp only[Res.ok.injEq]at h;obtain⟨_,rfl,rfl⟩:=h
   exact .same hc this.1 rfl
  ·simp only[Res.ok.injEq]at h;obtain⟨_,rfl,rfl⟩:=h
   exact .same hc this.2 rfl
  ·cases h
 ·exact aggEq_ok hc hx hy h ox oy
theorem lenS_ok(hc:Conc κ){t ty:TypeId}{x:AV}{c:Value}{p:Prop}{v:AV}{H':Heap}(hx:V κ x c)(h:lenS P κ.H t x= .ok p v H'):ValOk P κ (Builtin.len_ #[t] ty #[c]) v H':=by
 unfold lenS at h
 split at h
 ·rename_i l
  split at h
  ·rename_i ht
   simp only[Res.ok.injEq]at h;obtain⟨_,rfl,rfl⟩:=h
   obtain rfl:c= .string ⟨l.toArray⟩:=hx
   have hs:(ByteArray.mk l.toArray).size=l.length:=by simp[ByteArray.size]
   exact .same hc (c:= .int .i64 l.length) (by simp[Builtin.len_,Sem.run_bind,run_underlying (strT_ok ht),Result.andThen,goInt,hs]) rfl
  ·cases h
 ·cases h
theorem idxS_ok(hc:Conc κ){t:TypeId}{x:AV}{c ci:Value}{j:Option Int}{p:Prop}{v:AV}{H':Heap}(hx:V κ x c)(hi: ∀n,j=some n→ ∃k,ci= .int k n)(h:idxS P κ.H t x j= .ok p v H')(hp:p):ValOk P κ (Instr.index t c ci) v H':=by
 unfold idxS at h
 split at h
 ·rename_i l j
  obtain⟨k,rfl⟩:=hi _ rfl
  split at h
  ·rename_i ht
   simp only[Res.ok.injEq]at h;obtain⟨rfl,rfl,rfl⟩:=h
   obtain rfl:c= .string ⟨l.toArray⟩:=hx
   have hj:j.toNat<l.length:=by omega
   have e:(ByteArray.mk l.toArray)[j.toNat]? =some (l.getD j.toNat 0):=by
    have h1:j.toNat<(ByteArray.mk l.toArray).size:=by simpa[ByteArray.size]using hj
    rw[getElem?_pos (ByteArray.mk l.toArray) j.toNat h1]
    simp[List.getD,getElem?_eq_getElem hj]
    rfl
   exact .same hc (c:= .int .u8 (l.getD j.toNat 0).toNat) (by simp[Instr.index,Sem.run_bind,asIntOf,run_underlying (strT_ok ht),Result.andThen,hp.1,e]) rfl
  ·cases h
 ·cases h
theorem strS_ok(hc:Conc κ){t:TypeId}{x:AV}{c:Value}{env:Env}{ρv:Operand→Value}(hρ:Rho κ env ρv){lo hi mx:Option Operand}{p:Prop}{v:AV}{H':Heap}(hx:V κ x c)
  (h:strS P κ.H t x (intO env 0 lo) (intOO env hi) (intOO env mx)= .ok p v H') (hp:p):ValOk P κ (Instr.sliceAt t c (lo.map ρv) (hi.map ρv) (mx.map ρv)) v H':=by
 have hlo: ∀l:Int,intO env 0 lo=some l→0≤l→(lo.map ρv=none∧l.toNat=0)∨ ∃n,lo.map ρv=some (.int .i64 n)∧0≤n∧n.toNat=l.toNat:=by
  intro l hl h0
  cases lo with
  |none=>simp only[intO,Option.some.injEq]at hl;subst hl;exact .inl ⟨rfl,rfl⟩
  |some y=>exact .inr ⟨l,by simp[intA_ok hl (hρ.ev y)],h0,rfl⟩
 have opt: ∀{o:Option Operand} {r:Option Int},intOO env o=some r→(r=none→o.map ρv=none)∧(∀n,r=some n→o.map ρv=some (.int .i64 n)):=by
  intro o r hr
  cases o with
  |none=>simp only[intOO,Option.some.injEq]at hr;subst hr;exact⟨(fun _=>rfl),(fun n e=>by cases e)⟩
  |some y=>
   obtain⟨n,h1,h2⟩:=Option.map_eq_some_iff.1 hr
   subst h2
   exact⟨(fun e=>by cases e),(fun n' e=>by cases e;simp[intA_ok h1 (hρ.ev y)])⟩
 have run: ∀(l:List UInt8) (a b:Nat),strT P t=true→b≤l.length→(Instr.sliceBounds false l.length l.length (lo.map ρv) (hi.map ρv) none).run P κ.w= .ok (a,b,l.length) κ.w→mx.map ρv=none→(Instr.sliceAt t (.string ⟨l.toArray⟩) (lo.map ρv) (hi.map ρv) (mx.map ρv)).run P κ.w= .ok (.string ⟨((l.take b).drop a).toArray⟩) κ.w:=by
  intro l a b ht hb hr hm
  have hu:=strT_ok ht
  have e:(ByteArray.mk l.toArray).extract a b=ByteArray.mk ((l.take b).drop a).toArray:=by
   apply ByteArray.ext
   simp[ByteArray.data_extract,List.extract_toArray,List.extract_eq_take_drop,List.drop_take]
  have hs:(ByteArray.mk l.toArray).size=l.length:=by simp[ByteArray.size]
  unfold Instr.sliceAt
  simp only[Sem.run_bind,run_underlying hu,Result.andThen_ok]
  unfold Instr.slice
  simp[Sem.run_bind,run_underlying hu,Result.andThen_ok,hm,hs,hr,e]
 unfold strS at h
 split at h
 ·rename_i l a b hl hh hm
  split at h
  ·rename_i ht
   simp only[Res.ok.injEq]at h;obtain⟨rfl,rfl,rfl⟩:=h
   obtain⟨p1,p2,p3⟩:=hp
   obtain rfl:c= .string ⟨l.toArray⟩:=hx
   refine .same hc (run l a.toNat b.toNat ht (by omega) (sb_runs _ _ _ _ _ _ _ _ (hlo _ hl p1) (.inr ⟨b,(opt hh).2 _ rfl,by omega,rfl⟩) (.inl ⟨rfl,rfl⟩) (by omega) (by omega) (Nat.le_refl _) κ.w) ((opt hm).1 rfl)) rfl
  ·cases h
 ·rename_i l a hl hh hm
  split at h
  ·rename_i ht
   simp only[Res.ok.injEq]at h;obtain⟨rfl,rfl,rfl⟩:=h
   obtain⟨p1,p2⟩:=hp
   obtain rfl:c= .string ⟨l.toArray⟩:=hx
   have:=run l a.toNat l.length ht (Nat.le_refl _) (sb_runs _ _ _ _ _ _ _ _ (hlo _ hl p1) (.inl ⟨(opt hh).1 rfl,rfl,rfl⟩) (.inl ⟨rfl,rfl⟩) (by omega) (by omega) (Nat.le_refl _) κ.w) ((opt hm).1 rfl)
   rw[take_of_length_le (Nat.le_refl _)]at this
   exact .same hc this rfl
  ·cases h
 ·cases h
end
end Go.Fl
namespace Go.Fl
open Go.RowKit
section
variable {P:Program} {κ:Cx}
abbrev kV(k:List Int):Value:= .agg (k.map (Value.int .i64)).toArray
theorem run_chk0(em:Bool)(d:Nat){e:TypeId}(he:P.underlying e=some (.int .i64))(c:Value)(w:World):(Instr.checkKey em (d+1) e c).run P w= .ok () w:=by
 simp[Instr.checkKey,Sem.run_bind,run_underlying he,Result.andThen]
theorem run_chkA(em:Bool)(d:Nat){t e:TypeId}{n z:Nat}(hu:P.underlying t=some (.array n e))(hz:szT P e=some z)(xs:Array Value)(w:World)
  (h: ∀i,i<n→ ∃a,(part e xs (i*z)).run P w= .ok a w∧(Instr.checkKey em d e a).run P w= .ok () w):(Instr.checkKey em (d+1) t (.agg xs)).run P w= .ok () w:=by
 rw[Instr.checkKey]
 simp only[Sem.run_bind,run_underlying hu,Result.andThen_ok]
 simp only[Std.Legacy.Range.forIn_eq_forIn_range',Std.Legacy.Range.size,Nat.sub_zero,Nat.add_one_sub_one,Nat.div_one]
 have h': ∀i,i∈List.range' 0 n→ ∃a,(part e xs (i*z)).run P w= .ok a w∧(Instr.checkKey em d e a).run P w= .ok () w:=fun i hi=>h i (by rw[←range_eq_range']at hi;exact List.mem_range.1 hi)
 generalize List.range' 0 n=is at h'
 induction is with
 |nil=>simp
 |cons j is ih=>
  obtain⟨a,p1,p2⟩:=h' j (by simp)
  simp only[List.forIn_cons,Sem.run_bind,run_sizeOf hz,Result.andThen_ok,p1,p2,Sem.run_pure]
  exact ih fun i hi=>h' i (by simp[hi])
theorem run_chk(em:Bool)(d:Nat){t:TypeId}(h:arrI P t=true){xs:Array Value}(hx:xs.size=arrN P t)(w:World):(Instr.checkKey em (d+3) t (.agg xs)).run P w= .ok () w:=by
 obtain⟨n,e,hu,_,ha,hz,hi,hn⟩:=arrI_ok h
 obtain⟨e2,g1,g2,g3,g4⟩:=arrI0_ok hi
 refine run_chkA em (d+2) hu hz xs w fun i hin=>⟨.agg (xs.extract (i*arrN0 P e) (i*arrN0 P e+arrN0 P e)),by simp only[part,run_isAgg ha,Sem.run_bind,Result.andThen_ok,if_true,run_sizeOf hz,Sem.run_pure],?_⟩
 refine run_chkA em (d+1) g1 g3 _ w fun j hj=>?_
 have hlt:i*arrN0 P e+j<xs.size:=by
  rw[hx,hn]
  have:(i+1)*arrN0 P e≤n*arrN0 P e:=Nat.mul_le_mul_right _ hin
  rw[Nat.add_mul]at this;omega
 have hg:(xs.extract (i*arrN0 P e) (i*arrN0 P e+arrN0 P e))[j]? =some xs[i*arrN0 P e+j]:=by
  rw[Array.getElem?_extract,if_pos (by omega)]
  simp[hlt]
 refine⟨xs[i*arrN0 P e+j],by simp only[part,run_isAgg g2,Sem.run_bind,Result.andThen_ok,Bool.false_eq_true,if_false,Nat.mul_one,hg,Sem.run_pure],run_chk0 em d g4 _ w⟩
theorem eqL_ints: ∀(a b:List Int),a.length=b.length→eqL (a.map (AV.int .i64)) (b.map (AV.int .i64))=some (decide (a=b))
 |[],[],_=>rfl
 |[],_::_,h=>by simp at h
 |_::_,[],h=>by simp at h
 |x::a,y::b,h=>by
  simp only[List.map_cons,eqL,eqL_ints a b (by simpa using h),Option.map_some,List.cons.injEq,Option.some.injEq,Bool.decide_and]
theorem run_eqK{t:TypeId}(h:arrI P t=true){a b:List Int}(ha:a.length=arrN P t)(hb:b.length=arrN P t)(w:World):(Op.equal t (kV a) (kV b)).run P w= .ok (decide (a=b)) w:=by
 obtain⟨n,e,hu,_,hag,hz,hi,hn⟩:=arrI_ok h
 obtain⟨inf,g5,g6⟩:=szT_cells hz
 have hEq:=run_equalIn_array w 9999 (a.map (Value.int .i64)).toArray (b.map (Value.int .i64)).toArray hu g5
 rw[Op.equal,Op.maxDepth,show(10000:Nat)=9999+1 from rfl,hEq,g6,range_eq_range']
 have hv: ∀l:List Int,∀ (j:Nat) (v:AV),(l.map (AV.int .i64))[j]? =some v→ ∃c,(l.map (Value.int .i64)).toArray[0*arrN0 P e+j]? =some c∧V (⟨fun _ _=>False,w,fun _=>⟨0,0,true,none⟩,[]⟩:Cx) v c:=by
  intro l j v hj
  rw[getElem?_map]at hj
  obtain⟨x,hx,rfl⟩:=Option.map_eq_some_iff.1 hj
  exact⟨.int .i64 x,by simp[hx],rfl⟩
 exact eqA_run hi hag hz n 0 9997 _ _ _ _ _ (hv a) (hv b) (by simp[ha,hn]) (eqL_ints a b (by rw[ha,hb])) w
theorem mkEs_length: ∀(i:Nat) (l:List (List Int×Int)),(mkEs i l).length=l.length
 |_,[]=>rfl
 |i,(_,_)::l=>by simp[mkEs,mkEs_length (i+1) l]
theorem mkEs_get: ∀(i:Nat) (l:List (List Int×Int)) (j:Nat),(mkEs i l)[j]? =(l[j]?).map fun e=>{ key:=kV e.1,val:= .int .i64 e.2,born:=i+j }
 |_,[],j=>by simp[mkEs]
 |i,(k,n)::l,0=>by simp[mkEs]
 |i,(k,n)::l,j+1=>by simp only[mkEs,List.getElem?_cons_succ,mkEs_get (i+1) l j];congr 1;funext e;congr 1;omega
theorem mkEs_app: ∀(i:Nat) (l:List (List Int×Int)) (k:List Int) (n:Int),mkEs i (l++[(k,n)])=mkEs i l++[{ key:=kV k,val:= .int .i64 n,born:=i+l.length }]
 |i,[],k,n=>by simp[mkEs]
 |i,(a,b)::l,k,n=>by simp only[List.cons_append,mkEs,mkEs_app (i+1) l k n,length_cons];congr 4;omega
theorem run_findAsk{t:TypeId}(h:arrI P t=true){k:List Int}(hk:k.length=arrN P t)(w:World): ∀(l:List (List Int×Int)) (i b:Nat),(∀e,e∈l→e.1.length=arrN P t)→
  (Instr.findAsking t (kV k) (mkEs b l) i).run P w= .ok ((lkR l k).map fun r=>(i+r.1,.int .i64 r.2)) w
 |[],i,b,_=>by simp[mkEs,Instr.findAsking,lkR]
 |(k',n)::l,i,b,hl=>by
  have h0:k'.length=arrN P t:=hl (k',n) (by simp)
  have ih:=run_findAsk h hk w l (i+1) (b+1) fun e he=>hl e (by simp[he])
  simp only[mkEs,Instr.findAsking,Sem.run_bind,run_eqK h hk h0,Result.andThen_ok]
  by_cases e:k=k'
  ·subst e;simp[lkR]
  ·have e': ¬k'=k:=fun q=>e q.symm
   simp only[e,e',decide_false,Bool.false_eq_true,if_false,lkR,ih,Option.map_map]
   congr 2;funext r;simp;omega
theorem run_findKey{t:TypeId}(h:arrI P t=true){k:List Int}(hk:k.length=arrN P t)(w:World)(l:List (List Int×Int))(hl: ∀e,e∈l→e.1.length=arrN P t):
  (Instr.findKey t (kV k) (mkEs 0 l)).run P w= .ok ((lkR l k).map fun r=>(r.1,.int .i64 r.2)) w:=by
 obtain⟨n,te,hu,_⟩:=arrI_ok h
 have ha:=run_findAsk h hk w l 0 0 hl
 simp only[Nat.zero_add]at ha
 cases l with
 |nil=>simp[mkEs,Instr.findKey,Sem.run_bind,run_underlying hu,Result.andThen,Instr.findNow,lkR]
 |cons e l=>
  have:Instr.findNow (.array n te) (kV k) (mkEs 0 (e::l)) 0=none:=by simp[mkEs,Instr.findNow,Instr.sameNow]
  simp only[Instr.findKey,Sem.run_bind,run_underlying hu,Result.andThen_ok,this,ha]
theorem lkR_get: ∀{l:List (List Int×Int)} {k:List Int} {r:Nat×Int},lkR l k=some r→l[r.1]? =some (k,r.2)
 |[],_,_,h=>by simp[lkR]at h
 |(a,b)::l,k,r,h=>by
  simp only[lkR]at h
  split at h
  ·rename_i e;cases h;have e:a=k:=e;subst e;rfl
  ·obtain⟨r',h1,rfl⟩:=Option.map_eq_some_iff.1 h
   simpa using lkR_get h1
theorem keyL_ok{t:TypeId}{n:Nat}(h:keyL P t=some n): ∃k e,P.underlying t=some (.map k e)∧arrI P k=true∧arrN P k=n∧ ∀w0:World,(zeroValue e).run P w0= .ok (.int .i64 0) w0:=by
 unfold keyL at h
 split at h
 ·rename_i k e hu
  split at h
  ·rename_i hc
   cases h
   refine⟨k,e,hu,hc.1,rfl,?_⟩
   have h2:=hc.2
   unfold zeroI at h2
   split at h2
   ·rename_i h3 h4
    obtain⟨i,i1,i2⟩:=Option.bind_eq_some_iff.1 h4
    exact fun w0=>by simp[zeroValue,typeInfo,Sem.run_bind,Result.andThen,i1,i2]
   ·cases h2
  ·cases h
 ·cases h
theorem run_lookR{t:TypeId}{n:Nat}(ht:keyL P t=some n){g:Nat}{l:List (List Int×Int)}{k:List Int}(hk:k.length=n)(hl: ∀e,e∈l→e.1.length=n){w:World}(hg:w.heap[g]? =some (Rk.map l).obj):
  (Instr.lookup t (.map (some g)) (kV k) false).run P w= .ok (.int .i64 (idR l k).2) w:=by
 obtain⟨kt,e,hu,ha,hn,hz⟩:=keyL_ok ht
 subst hn
 have hx:((k.map (Value.int .i64)).toArray).size=arrN P kt:=by simp[hk]
 have h1:=run_findKey ha hk w l hl
 have h2: ∀em,(Instr.checkKey em 10000 kt (kV k)).run P w= .ok () w:=fun em=>run_chk em 9997 ha hx w
 simp only[Instr.lookup,Sem.run_bind,run_underlying hu,Result.andThen_ok,getObj,Sem.run,hg,Rk.obj,h2,h1]
 unfold idR
 cases hlk:lkR l k with
 |none=>
  rw[hlk]at h1
  simp[h1,h2,hz,Result.andThen]
 |some r=>
  rw[hlk]at h1
  simp[h1,h2,Result.andThen]
theorem modify_self{α:Type}{a:List α}{i:Nat}{f:α→α}(h: ∀x,a[i]? =some x→f x=x):a.modify i f=a:=by
 apply ext_getElem?
 intro j
 rw[List.getElem?_modify]
 cases hx:a[j]? with
 |none=>rfl
 |some x=>
  by_cases e:i=j
  ·subst e;simp[h x hx]
  ·simp[e]
theorem run_entR{t:TypeId}{n:Nat}(ht:keyL P t=some n){g:Nat}{l:List (List Int×Int)}{k:List Int}(hk:k.length=n)(hl: ∀e,e∈l→e.1.length=n){w:World}(hg:w.heap[g]? =some (Rk.map l).obj):
  (Instr.mapEntry t (.map (some g)) (kV k)).run P w= .ok (.tuple #[.int .i64 (idR l k).2,.int .i64 (idR l k).1]) (Go.ChangeMaps.setBlock w g (Rk.map (upR l k)).obj):=by
 obtain⟨kt,e,hu,ha,hn,hz⟩:=keyL_ok ht
 subst hn
 have hx:((k.map (Value.int .i64)).toArray).size=arrN P kt:=by simp[hk]
 have h1:=run_findKey ha hk w l hl
 have h2: ∀em,(Instr.checkKey em 10000 kt (kV k)).run P w= .ok () w:=fun em=>run_chk em 9997 ha hx w
 have hso: ∀o:Obj,(setObj g o).run P w= .ok () (Go.ChangeMaps.setBlock w g o):=fun o=>by
  simp[setObj,Sem.run,hg,Rk.obj,Go.ChangeMaps.setBlock]
 simp only[Instr.mapEntry,Sem.run_bind,run_underlying hu,Result.andThen_ok,getObj,Sem.run,hg,Rk.obj,h2,h1]
 unfold idR upR
 cases hlk:lkR l k with
 |none=>simp[hz,Result.andThen,hso,mkEs_app,goInt]
 |some r=>
  have hge:=lkR_get hlk
  have hme:(mkEs 0 l).toArray[r.1]? =some { key:=kV k,val:= .int .i64 r.2,born:=r.1 }:=by simp[mkEs_get,hge]
  have hsb:Instr.sameBits 10000 (kV k) (kV k)=true:=by
   simp only[Instr.sameBits,beq_self_eq_true,Bool.true_and,List.all_eq_true]
   intro x hx
   obtain⟨y,hy,e1⟩: ∃y:Int,x=(.int .i64 y,.int .i64 y)∧True:=by
    have:=List.of_mem_zip hx
    obtain⟨i,hi⟩:=List.mem_iff_getElem?.1 hx
    rw[List.getElem?_zip_eq_some]at hi
    obtain⟨a1,a2⟩:=hi
    simp only[getElem?_map]at a1 a2
    obtain⟨y,hy,e1⟩:=Option.map_eq_some_iff.1 a1
    rw[hy]at a2
    simp only[Option.map_some,Option.some.injEq]at a2
    exact⟨y,Prod.ext e1.symm a2.symm,trivial⟩
   subst hy
   simp[Instr.sameBits]
  have hmod:(mkEs 0 l).modify r.1 (fun e=>{ key:=kV k,val:=e.val,born:=e.born })=mkEs 0 l:=modify_self fun x hx=>by
   have hme':(mkEs 0 l)[r.1]? =some { key:=kV k,val:= .int .i64 r.2,born:=r.1 }:=by simpa using hme
   rw[hme']at hx;cases hx;rfl
  simp[Result.andThen,hme,Instr.keyThatStays,hsb,hso,hmod,goInt]
theorem run_stoR{t:TypeId}{g j:Nat}{l:List (List Int×Int)}{n:Int}(hj:j<l.length){w:World}(hg:w.heap[g]? =some (Rk.map l).obj):
  (Instr.entryStore t (.map (some g)) (.int .i64 j) (.int .i64 n)).run P w= .ok () (Go.ChangeMaps.setBlock w g (Rk.map (stR l j n)).obj):=by
 have hso: ∀o:Obj,(setObj g o).run P w= .ok () (Go.ChangeMaps.setBlock w g o):=fun o=>by
  simp[setObj,Sem.run,hg,Rk.obj,Go.ChangeMaps.setBlock]
 have hfi:(mkEs 0 l).findIdx? (fun e=>(e.born:Int) == j)=some j:=by
  have hlj:j<(mkEs 0 l).length:=by rw[mkEs_length];exact hj
  have hb: ∀(i:Nat) (hi:i<(mkEs 0 l).length),((mkEs 0 l)[i]).born=i:=fun i hi=>by
   have h1:=mkEs_get 0 l i
   rw[getElem?_eq_getElem hi,getElem?_eq_getElem (by rw[mkEs_length]at hi;exact hi)]at h1
   simp only[Option.map_some,Option.some.injEq]at h1
   rw[h1];simp
  rw[List.findIdx?_eq_some_iff_getElem]
  refine⟨hlj,by simp[hb j hlj],fun i hi=>?_⟩
  have:=hb i (by omega)
  simp only[this,beq_iff_eq]
  omega
 have hmod:(mkEs 0 l).modify j (fun e=>{ key:=e.key,val:= .int .i64 n,born:=e.born })=mkEs 0 (stR l j n):=by
  apply ext_getElem?
  intro i
  rw[List.getElem?_modify,mkEs_get,mkEs_get]
  unfold stR
  rw[List.getElem?_modify]
  cases l[i]? with
  |none=>rfl
  |some x=>by_cases e:j=i<;>simp[e]
 have hsl:(stR l j n).length=l.length:=by simp[stR]
 simp[Instr.entryStore,Sem.run_bind,getObj,Sem.run,hg,Rk.obj,Result.andThen,asInt,asIntOf,hfi,hso,hmod,hsl]
theorem run_rngR{t:TypeId}{n:Nat}(ht:keyL P t=some n){g:Nat}{l:List (List Int×Int)}{w:World}(hg:w.heap[g]? =some (Rk.map l).obj):
  (Instr.range t (.map (some g))).run P w= .ok (.pointer (some ⟨w.heap.size,0,none⟩)) (w.alloc (Rk.it g l.length [] l.length).obj):=by
 obtain⟨kt,e,hu,_⟩:=keyL_ok ht
 simp[Instr.range,Sem.run_bind,run_underlying hu,getObj,Sem.run,hg,Rk.obj,Result.andThen,newObj]
theorem mkEs_born{l:List (List Int×Int)}{x:MapEntry}(h:x∈mkEs 0 l): ∃(j:Nat) (e:List Int×Int),l[j]? =some e∧x={ key:=kV e.1,val:= .int .i64 e.2,born:=j }:=by
 obtain⟨j,hj⟩:=List.mem_iff_getElem?.1 h
 rw[mkEs_get]at hj
 obtain⟨e,he,rfl⟩:=Option.map_eq_some_iff.1 hj
 exact⟨j,e,he,by simp⟩
theorem run_nxtR{ty:TypeId}{g r:Nat}{l:List (List Int×Int)}{seen:List Nat}{w:World}(hr:w.heap[r]? =some (Rk.it g l.length seen l.length).obj)(hg:w.heap[g]? =some (Rk.map l).obj):
  ((∀j,j<l.length→j∈seen)∧(Instr.next (.pointer (some ⟨r,0,none⟩)) false ty).run P w= .ok (.tuple #[.bool false]) w)∨
  ∃(j:Nat) (e:List Int×Int),l[j]? =some e∧j∉seen∧ ∃w1:World,(w1=w∨w1=w.drew)∧
   (Instr.next (.pointer (some ⟨r,0,none⟩)) false ty).run P w= .ok (.tuple #[.bool true,kV e.1,.int .i64 e.2]) (Go.ChangeMaps.setBlock w1 r (Rk.it g l.length (seen++[j]) l.length).obj):=by
 rcases run_next_at (P:=P) w ty r g l.length l.length seen.toArray (mkEs 0 l).toArray l.length hr hg (fun x hx=>by
  obtain⟨j,e,he,rfl⟩:=mkEs_born (by simpa using hx)
  exact(List.getElem?_eq_some_iff.1 he).1) (Nat.le_refl _)with⟨h1,h2⟩|⟨x,hx,w1,hw,h2⟩
 ·refine .inl ⟨fun j hj=>?_,h2⟩
  obtain⟨e,he⟩: ∃e,l[j]? =some e:=⟨_,getElem?_eq_getElem hj⟩
  have hm:(⟨kV e.1,.int .i64 e.2,j⟩:MapEntry)∈mkEs 0 l:=List.mem_of_getElem? (i:=j) (by rw[mkEs_get,he];simp)
  have hemp:=Array.eq_empty_of_size_eq_zero h1
  unfold leftOf at hemp
  rw[Array.filter_eq_empty_iff]at hemp
  have:=hemp _ (by simpa using hm)
  simpa using this
 ·refine .inr ?_
  have hx':x∈mkEs 0 l∧seen.toArray.contains x.born=false:=by
   unfold leftOf at hx
   simpa using hx
  obtain⟨j,e,he,rfl⟩:=mkEs_born hx'.1
  refine⟨j,e,he,by simpa using hx'.2,w1,hw,?_⟩
  rw[h2]
  simp[Rk.obj]
theorem run_etyR{g r:Nat}{l:List (List Int×Int)}{seen:List Nat}{j:Nat}{e:List Int×Int}{since:Nat}{w:World}(hr:w.heap[r]? =some (Rk.it g since (seen++[j]) l.length).obj)(hg:w.heap[g]? =some (Rk.map l).obj)(he:l[j]? =some e):
  (Instr.entry (.pointer (some ⟨r,0,none⟩))).run P w= .ok (.tuple #[kV e.1,.int .i64 e.2]) w:=by
 refine run_entry_at (P:=P) w r g since seen.toArray (mkEs 0 l).toArray l.length ⟨kV e.1,.int .i64 e.2,j⟩ (by rw[hr];simp[Rk.obj]) hg ?_ ?_
 ·have hm:(⟨kV e.1,.int .i64 e.2,j⟩:MapEntry)∈mkEs 0 l:=List.mem_of_getElem? (i:=j) (by rw[mkEs_get,he];simp)
  simpa using hm
 ·have:((mkEs 0 l).toArray.toList.map (·.born))=List.range l.length:=by
   apply ext_getElem?
   intro i
   rw[getElem?_map]
   simp only[mkEs_get]
   cases hx:l[i]? with
   |none=>rw[getElem?_eq_none (by simpa using hx)];rfl
   |some x=>have:=(List.getElem?_eq_some_iff.1 hx).1;simp[this]
  rw[this];exact List.nodup_range
theorem setRaw(hc:Conc κ){b g:Nat}{k:Rk}(hb:κ.H[b]? =some (.raw g k))(k':Rk): ∃κ':Cx,κ'.w=Go.ChangeMaps.setBlock κ.w g k'.obj∧Conc κ'∧StepM κ κ'∧κ'.H=κ.H.set b (.raw g k'):=by
 obtain⟨hnil,hblk,hob,hS⟩:=hc.blk b _ hb
 have hglt:g<κ.w.heap.size:=(Array.getElem?_eq_some_iff.1 hob).1
 have hoth: ∀i,i≠g→(Go.ChangeMaps.setBlock κ.w g k'.obj).heap[i]? =κ.w.heap[i]? :=fun i hi=>by
  simp[Go.ChangeMaps.setBlock,Array.getElem?_setIfInBounds,Ne.symm hi]
 have hself:(Go.ChangeMaps.setBlock κ.w g k'.obj).heap[g]? =some k'.obj:=by
  simp[Go.ChangeMaps.setBlock,Array.getElem?_setIfInBounds,hglt]
 have hm:=hc.mod (w':=Go.ChangeMaps.setBlock κ.w g k'.obj) b (κ.ρ b) _ (.raw g k') hb rfl rfl rfl (by simp[Go.ChangeMaps.setBlock])
  (fun i _ hi=>hoth i (by rw[←hblk];exact hi hnil)) (fun i o hs=>by
   by_cases e:i=g
   ·subst e;exact absurd hs (hS o)
   ·exact SameAt.of_block (hoth i e))
  (fun _=>⟨.inl rfl,by simp only[Go.ChangeMaps.setBlock,Array.size_setIfInBounds];rw[hblk];exact hglt⟩) ⟨rfl,rfl⟩
  (fun _=>⟨by simp only[upd_same];exact hnil,by simp only[upd_same];exact hblk,hself,hS⟩)
 exact⟨_,rfl,hm.1,hm.2,rfl⟩
theorem raw_at(hc:Conc κ){g b:Nat}{k:Rk}(hf:findR κ.H g=some (b,k)):κ.w.heap[g]? =some k.obj:=(hc.blk b _ (findR_ok hf)).2.2.1
theorem lookR_ok(hc:Conc κ){t:TypeId}{g b n:Nat}{l:List (List Int×Int)}{k:List Int}(hf:findR κ.H g=some (b,.map l))(ht:keyL P t=some n)(hk:k.length=n)(hl: ∀e,e∈l→e.1.length=n):
  ValOk P κ (Instr.lookup t (.map (some g)) (kV k) false) (.int .i64 (idR l k).2) κ.H:= .same hc (run_lookR ht hk hl (raw_at hc hf)) rfl
theorem entR_ok(hc:Conc κ){t:TypeId}{g b n:Nat}{l:List (List Int×Int)}{k:List Int}(hf:findR κ.H g=some (b,.map l))(ht:keyL P t=some n)(hk:k.length=n)(hl: ∀e,e∈l→e.1.length=n):
  ValOk P κ (Instr.mapEntry t (.map (some g)) (kV k)) (.tup [.int .i64 (idR l k).2,.int .i64 (idR l k).1]) (κ.H.set b (.raw g (.map (upR l k)))):=by
 obtain⟨κ',h1,h2,h3,h4⟩:=setRaw hc (findR_ok hf) (.map (upR l k))
 exact⟨κ',_,by rw[h1];exact run_entR ht hk hl (raw_at hc hf),h2,h3,h4,_,rfl,_,_,rfl,rfl,_,_,rfl,rfl,rfl⟩
theorem stoR_ok(hc:Conc κ){t:TypeId}{g b j:Nat}{l:List (List Int×Int)}{n:Int}(hf:findR κ.H g=some (b,.map l))(hj:j<l.length):
  ∃κ':Cx,(Instr.entryStore t (.map (some g)) (.int .i64 j) (.int .i64 n)).run P κ.w= .ok () κ'.w∧Conc κ'∧StepM κ κ'∧κ'.H=κ.H.set b (.raw g (.map (stR l j n))):=by
 obtain⟨κ',h1,h2,h3,h4⟩:=setRaw hc (findR_ok hf) (.map (stR l j n))
 exact⟨κ',by rw[h1];exact run_stoR hj (raw_at hc hf),h2,h3,h4⟩
theorem VL_ints: ∀k:List Int,VL κ (k.map (AV.int .i64)) (k.map (Value.int .i64))
 |[]=>rfl
 |a::k=>⟨_,_,rfl,rfl,VL_ints k⟩
theorem intsA_ok: ∀{cs:List AV} {k:List Int},intsA cs=some k→cs=k.map (AV.int .i64)
 |[],k,h=>by simp only[intsA,Option.some.injEq]at h;subst h;rfl
 |c::cs,k,h=>by
  cases c with
  |int q a=>
   cases q with
   |i64=>
    simp only[intsA]at h
    obtain⟨r,h1,rfl⟩:=Option.map_eq_some_iff.1 h
    rw[intsA_ok h1];rfl
   |_=>simp[intsA]at h
  |_=>simp[intsA]at h
theorem VL_val: ∀{k:List Int} {vs:List Value},VL κ (k.map (AV.int .i64)) vs→vs=k.map (Value.int .i64)
 |[],vs,h=>h
 |a::k,vs,⟨c,cs,e,h1,h2⟩=>by rw[e,show c=_ from h1,VL_val h2];rfl
theorem agg_kV{cs:List AV}{k:List Int}{c:Value}(h:intsA cs=some k)(hv:V κ (.agg cs) c):c=kV k:=by
 obtain⟨a,rfl,hl⟩:=hv
 rw[intsA_ok h]at hl
 have:=VL_val hl
 congr 1
 exact Array.toList_inj.1 (by rw[this])
theorem etyR_ok(hc:Conc κ){r b b' g j:Nat}{l:List (List Int×Int)}{seen:List Nat}{since:Nat}(hf:findR κ.H r=some (b,.it g since seen l.length))(hg:findR κ.H g=some (b',.map l))(hs:seen.getLast? =some j)(hj:j<l.length):
  ValOk P κ (Instr.entry (.pointer (some ⟨r,0,none⟩))) (.tup [.agg ((l.getD j ([],0)).1.map (AV.int .i64)),.int .i64 (l.getD j ([],0)).2]) κ.H:=by
 obtain⟨e,he⟩: ∃e,l[j]? =some e:=⟨_,getElem?_eq_getElem hj⟩
 have hge:l.getD j ([],0)=e:=by simp[List.getD_eq_getElem?_getD,he]
 have hse:seen=seen.dropLast++[j]:=by
  obtain⟨ys,hy⟩:=List.getLast?_eq_some_iff.1 hs
  rw[hy];simp
 have hr:=raw_at hc hf
 rw[hse]at hr
 rw[hge]
 exact .same hc (run_etyR hr (raw_at hc hg) he) ⟨_,rfl,_,_,rfl,⟨_,rfl,VL_ints e.1⟩,_,_,rfl,rfl,rfl⟩
end
open Go.Maps
section
variable {P:Program} {κ:Cx}
theorem key_i64{k:TypeId}(hk:P.underlying k=some (.int .i64)){x:Int}(hx:I64 x):keyOf P k (.int .i64 x)=some (.int .i64 x):=by
 have h1:=hx.1
 have h2:=hx.2
 have:(Lit.int IntKind.i64 x).wf=true:=by simp[Lit.wf];exact⟨h1,h2⟩
 simp[keyOf,mapKey,hk,this]
theorem look_at(hc:Conc κ){g n:Nat}{t:TypeId}{q:IntKind}{f:Int→Option Int}(hm:MapAt P κ.w g t q n f){k:Int}(hk:I64 k)(ok:Bool):
  ValOk P κ (Instr.lookup t (.map (some g)) (.int .i64 k) ok) (if ok=true then .tup [.int q ((f k).getD 0),.bool (f k).isSome]else .int q ((f k).getD 0)) κ.H:=by
 obtain⟨kt,e,D,hu,huk,hue,hz,hown,hcont⟩:=hm
 obtain⟨c1,c2⟩:=hcont k hk.1 hk.2
 have hw0:(Lit.int q 0).wf=true:=by cases q<;>decide
 cases ok with
 |true=>
  obtain⟨v,ps,hrun,hv⟩:=hown.look_ok (int_keyed huk) hu (hz κ.w) (plainElem_int hue hw0) (key_i64 huk hk)
  obtain⟨a,rfl,ha,_⟩:=plainElem_int_inv hue hv
  simp only[Prod.mk.injEq]at ha
  rw[c2]at ha
  have ha1:(f k).getD 0=a:=by
   have:=ha.1
   simp only[DataW.lit.injEq,Lit.int.injEq,true_and]at this
   exact this
  rw[c1]at hrun
  refine .same hc hrun ?_
  rw[if_pos rfl,ha1]
  exact⟨_,rfl,_,_,rfl,rfl,_,_,rfl,rfl,rfl⟩
 |false=>
  obtain⟨v,ps,hrun,hv⟩:=hown.lookup (int_keyed huk) hu (hz κ.w) (plainElem_int hue hw0) (key_i64 huk hk)
  obtain⟨a,rfl,ha,_⟩:=plainElem_int_inv hue hv
  simp only[Prod.mk.injEq]at ha
  rw[c2]at ha
  have ha1:(f k).getD 0=a:=by
   have:=ha.1
   simp only[DataW.lit.injEq,Lit.int.injEq,true_and]at this
   exact this
  refine .same hc hrun ?_
  rw[if_neg (by simp),ha1]
  rfl
theorem look_ok(hc:Conc κ){g b n:Nat}{t:TypeId}{q:IntKind}{f:Int→Option Int}(hb:κ.H[b]? =some (.mp P g t q n f)){k:Int}(hk:I64 k)(ok:Bool):
  ValOk P κ (Instr.lookup t (.map (some g)) (.int .i64 k) ok) (if ok=true then .tup [.int q ((f k).getD 0),.bool (f k).isSome]else .int q ((f k).getD 0)) κ.H:=
 look_at hc (hc.blk b _ hb).2.2.1 hk ok
theorem update_ok(hc:Conc κ){g b n:Nat}{t:TypeId}{q:IntKind}{f:Int→Option Int}(hb:κ.H[b]? =some (.mp P g t q n f)){k y:Int}(hk:I64 k)(hy:(Lit.int q y).wf=true)(hn:n<maxLen):
  ∃κ',(Instr.mapUpdate t (.map (some g)) (.int .i64 k) (.int q y)).run P κ.w= .ok () κ'.w∧Conc κ'∧StepM κ κ'∧κ'.H=κ.H.set b (.mp P g t q (n+1) fun z=>if z=k then some y else f z):=by
 obtain⟨hnil,hblk,⟨kt,e,D,hu,huk,hue,hz,hown,hcont⟩,hS⟩:=hc.blk b _ hb
 have hbl:=(List.getElem?_eq_some_iff.1 hb).1
 have hD:=hown.isMap
 obtain⟨w',hrun,hown',es,clock,es',clock',h1,h2⟩:=hown.store (int_keyed huk) hu hn (key_i64 huk hk) (plainElem_int hue hy)
 have hglt:g<κ.w.heap.size:=(Array.getElem?_eq_some_iff.1 h1).1
 have hoth: ∀i,i≠g→w'.heap[i]? =κ.w.heap[i]? :=fun i hi=>by rw[h2];exact Go.ChangeMaps.heap_setBlock_other h1 _ hi
 have hkl:WideAt.IsKeyLit (.int .i64 k):=trivial
 have hm:=hc.mod (w':=w') b (κ.ρ b) _ (.mp P g t q (n+1) fun z=>if z=k then some y else f z) hb (by rw[h2];rfl) (by rw[h2];rfl) (by rw[h2];rfl) (by rw[h2];simp[Go.ChangeMaps.setBlock])
  (fun i _ hi=>hoth i (by rw[←hblk];exact hi hnil)) (fun i o hs=>by
   by_cases e:i=g
   ·subst e;exact absurd hs (hS o)
   ·exact SameAt.of_block (hoth i e))
  (fun _=>⟨.inl rfl,by rw[h2];simp only[Go.ChangeMaps.setBlock,Array.size_setIfInBounds];rw[hblk];exact hglt⟩) ⟨rfl,rfl⟩
  (fun _=>⟨by simp only[upd_same];exact hnil,by simp only[upd_same];exact hblk,⟨kt,e,D.put (.int .i64 k) (.lit (.int q y)),hu,huk,hue,hz,hown',fun x x1 x2=>by
   by_cases hx:x=k
   ·subst hx
    exact⟨by rw[has_put_same hD hkl];simp,by rw[atKey_put_same hD hkl];simp⟩
   ·have hne:(Lit.int .i64 x)≠ .int .i64 k:=fun h=>hx (by simpa using h)
    rw[has_put_other hne,atKey_put_other hne]
    simp only[if_neg hx]
    exact hcont x x1 x2⟩,hS⟩)
 exact⟨_,hrun,hm.1,hm.2,rfl⟩
end
end Go.Fl
