/- Contracts of functions of the given program, without a condition beyond those that each theorem states; they lead to the given statement. -/
import Derived.Test.YtoadkchhimojlaaGreatDoorLAe
import Derived.Test.YtoadkchhimojlaaGreatDoorFlC
set_option linter.unusedSectionVars false
set_option linter.unusedSimpArgs false
set_option linter.unusedVariables false
set_option maxRecDepth 100000
open List(append_assoc append_nil drop_length flatten_cons getElem?_set_ne length_append length_cons length_map length_range map_append map_cons map_nil mem_of_getElem? take_length take_zero)
open Go.Proofs.Tryz(prog)
namespace Go.Proofs.YtoadkchhimojlaaGreatDoor
open Go Go.Fl
open Classical
def sZ04c_f157(_:Nat):List (Nat×Nat):=[(0,0),(0,0),(0,0),(0,0),(0,0),(0,0)]
attribute [go_sem] sZ04c_f157
theorem perm_add{b:Nat}: ∀{p:List (List Int)} {m:Nat},m<p.length→(addB p m b).flatten.Perm ((b:Int)::p.flatten)
 |[],m,h=>by simp at h
 |l::p,0,h=>by
  have e:addB (l::p) 0 b=(l++[(b:Int)])::p:=by simp[addB]
  rw[e,flatten_cons,flatten_cons,append_assoc]
  exact List.perm_middle
 |l::p,m+1,h=>by
  have ih:=perm_add (b:=b) (p:=p) (m:=m) (by simpa using h)
  have e:addB (l::p) (m+1) b=l::addB p m b:=by simp[addB]
  rw[e,flatten_cons,flatten_cons]
  exact(List.Perm.append_left l ih).trans List.perm_middle
theorem usd_flat{p:List (List Int)}{i:Nat}:usd p i=true↔(i:Int)∈p.flatten:=by
 rw[usd_iff,List.mem_flatten]
theorem nodup_add{p:List (List Int)}{m b:Nat}(hm:m<p.length)(hn:p.flatten.Nodup)(hu:usd p b=false):(addB p m b).flatten.Nodup:=by
 rw[(perm_add hm).nodup_iff,List.nodup_cons]
 exact⟨fun h=>(by rw[←usd_flat]at h;rw[h]at hu;cases hu),hn⟩
def cont(S:List Int)(i:Nat):Bool:=S.contains (i:Int)
theorem cont_add(S:List Int)(b i:Nat):cont (S++[(b:Int)]) i=(cont S i||decide (i=b)):=by
 unfold cont
 rw[Bool.eq_iff_iff]
 simp only[List.contains_iff_mem,List.mem_append,List.mem_singleton,Bool.or_eq_true,decide_eq_true_eq,Int.natCast_inj]
theorem bs_cont_nil:bs (cont []) 5=0:=rfl
theorem c187(h:House)(hk:okG h)(p:List (List Int))(hq:okQ h.ms.length h.bs.length p)(hn:p.flatten.Nodup):PC prog 187 [hG h,lP p] (.bool true):=by
 obtain⟨k1,k2,k3,k4,k5,k6,k7,k8⟩:=id hk
 have hpl:=hq.len
 have hpl':(p.length:Int)=h.ms.length:=by omega
 refine pB Tryz.func187 fun hlen=>CV.run ?_
 simp only[Tryz.f187]
 simp only[go_sem,length_map,and_true,true_and]at hlen
 repeat' first|refine sP ?_ ?_<;>intro hb<;>(try rw[hb])<;>(try simp only[bb]at hb)<;>(try simp only[within]at hb)<;>try simp only[go_sem]|refine aI ?_|simp only[go_sem]
 refine vc_for (fun j=>⟨[(12,.int .i64 j),(11,.int .i64 p.length),(10,lP p),(1,lP p),(2,.lp 0 0),(5,.int .i64 (bs (cont (p.take j).flatten) 5:Nat)),(4,.bool false)],[.box 26 (cG h) false]⟩) p.length (fun _=>True) (by(first|exact wk_same (by simp only[go_sem,ic,take_zero,List.flatten_nil,bs_cont_nil])|(refine wk_drop ?_ ?_ ?_ ?_ ?_<;>simp only[go_sem,ic,take_zero,List.flatten_nil,bs_cont_nil]))) trivial ?_
 intro j hj _
 rcases Nat.lt_or_ge j p.length with hlt|hge
 ·obtain⟨l,hl⟩:=get_of hlt
  have hlt':(j:Int)<p.length:=by omega
  have hsplit:p.flatten=(p.take j).flatten++(l++(p.drop (j+1)).flatten):=by
   conv=>lhs;rw[←List.take_append_drop j p,drop_cons' hl]
   rw[List.flatten_append,flatten_cons]
  have htk:(p.take (j+1)).flatten=(p.take j).flatten++l:=by
   rw[List.take_add_one,hl];simp
  repeat' first|refine sP ?_ ?_<;>intro hb<;>(try rw[hb])<;>(try simp only[bb]at hb)<;>(try simp only[within]at hb)<;>try simp only[go_sem,hlt',hl,encP]|refine aI ?_|simp only[go_sem,hlt',hl,encP]
  refine vc_for (fun i=>⟨[(18,.int .i64 i),(17,.int .i64 l.length),(16,lN l),(7,lN l),(12,.int .i64 j),(11,.int .i64 p.length),(10,lP p),(1,lP p),(2,.lp 0 0),(5,.int .i64 (bs (cont ((p.take j).flatten++l.take i)) 5:Nat)),(4,.bool false)],[.box 26 (cG h) false]⟩) l.length (fun _=>True) (by(first|exact wk_same (by simp only[go_sem,ic,take_zero,append_nil])|(refine wk_drop ?_ ?_ ?_ ?_ ?_<;>simp only[go_sem,ic,take_zero,append_nil]))) trivial ?_
  intro i hi _
  rcases Nat.lt_or_ge i l.length with hlt2|hge2
  ·obtain⟨b0,hb0⟩:=get_of hlt2
   have hlt2':(i:Int)<l.length:=by omega
   obtain⟨y1,y2⟩:=hq.rng l (mem_of_getElem? hl) b0 (mem_of_getElem? hb0)
   obtain⟨b,rfl⟩: ∃k:Nat,b0=k:=⟨b0.toNat,by omega⟩
   have hi5:b<5:=by omega
   have hl5:=hq.short (mem_of_getElem? hl)
   have etk:(p.take j).flatten++l.take (i+1)=((p.take j).flatten++l.take i)++[(b:Int)]:=by
    rw[List.take_add_one,hb0,append_assoc];rfl
   have hnot:(b:Int)∉(p.take j).flatten++l.take i:=by
    have e:p.flatten=((p.take j).flatten++l.take i)++((b:Int)::(l.drop (i+1)++(p.drop (j+1)).flatten)):=by
     rw[hsplit]
     conv=>lhs;rw[←List.take_append_drop i l,drop_cons' hb0]
     simp
    rw[e]at hn
    intro hm
    exact(List.nodup_append.1 hn).2.2 _ hm _ (by simp) rfl
   generalize hS:(p.take j).flatten++l.take i=S at*
   have hu:cont S b=false:=by unfold cont;simpa using hnot
   have hU:bs (cont S) 5<32:=Nat.lt_of_lt_of_le (bs_lt (cont S) 5) (by decide)
   have hbit:=bs_bit (f:=cont S) hi5
   rw[hu,if_neg (by simp)]at hbit
   have a1:((bs (cont S) 5:Nat):Int) / 2^b=((bs (cont S) 5 / 2^b:Nat):Int):=by simp
   have a2:bs (cont S) 5 / 2^b≤bs (cont S) 5:=Nat.div_le_self _ _
   have a3:(I64 ((bs (cont S) 5 / 2^b:Nat):Int))=True:=eq_true (by generalize bs (cont S) 5 / 2^b=q at a2;unfold I64;omega)
   have a7:(0≤((bs (cont S) 5 / 2^b:Nat):Int))=True:=eq_true (Int.natCast_nonneg _)
   have a4:bs (cont S) 5 / 2^b &&& 1=bs (cont S) 5 / 2^b % 2:=Nat.and_one_is_mod _
   have a5:(I64 1)=True:=eq_true (by unfold I64;omega)
   have b1:(1:Int)*2^b=((2^b:Nat):Int):=by simp
   have b2:bs (cont S) 5 ||| 2^b=bs (cont (S++[(b:Int)])) 5:=by rw[bit_or _ hU _ hi5 hbit,bs_add hu (cont_add S b) 5 hi5]
   have b4:2^b≤16:=by
    have:b≤4:=by omega
    exact Nat.pow_le_pow_right (n:=2) (by omega) this
   have b5:(I64 ((2^b:Nat):Int))=True:=eq_true (by generalize 2^b=q at b4;unfold I64;omega)
   have b8:(0≤((2^b:Nat):Int))=True:=eq_true (Int.natCast_nonneg _)
   have b6:(I64 ((bs (cont S) 5:Nat):Int))=True:=eq_true (by unfold I64;omega)
   have hw:within (b:Int) 0 ((h.bs.length:Int)-1)=True:=eq_true (by unfold within;omega)
   repeat' first|refine sP ?_ ?_<;>intro hb<;>(try rw[hb])<;>(try simp only[bb]at hb)<;>(try simp only[within]at hb)<;>try simp only[go_sem,hlt2',hb0,encN,a1,a3,a4,a5,a7,hbit,b1,b2,b5,b6,b8,hw]|refine aI ?_|with_reducible refine cq (c92 _ _ _) ?_|simp only[go_sem,hlt2',hb0,encN,a1,a3,a4,a5,a7,hbit,b1,b2,b5,b6,b8,hw]
   all_goals first|exact(by(first|exact wk_same (by simp only[go_sem,ic,etk])|(refine wk_drop ?_ ?_ ?_ ?_ ?_<;>simp only[go_sem,ic,etk])))|exact⟨hlt2,by(first|exact wk_same (by simp only[go_sem,ic,etk])|(refine wk_drop ?_ ?_ ?_ ?_ ?_<;>simp only[go_sem,ic,etk]))⟩
  ·have hge2': ¬(i:Int)<l.length:=by omega
   have:i=l.length:=by omega
   subst this
   repeat' first|refine sP ?_ ?_<;>intro hb<;>(try rw[hb])<;>(try simp only[bb]at hb)<;>(try simp only[within]at hb)<;>try simp only[go_sem,hge2']|refine aI ?_|simp only[go_sem,hge2']
   all_goals first|exact(by(first|exact wk_same (by simp only[go_sem,ic,htk,take_length])|(refine wk_drop ?_ ?_ ?_ ?_ ?_<;>simp only[go_sem,ic,htk,take_length])))|exact⟨hlt,by(first|exact wk_same (by simp only[go_sem,ic,htk,take_length])|(refine wk_drop ?_ ?_ ?_ ?_ ?_<;>simp only[go_sem,ic,htk,take_length]))⟩
 ·have hge': ¬(j:Int)<p.length:=by omega
  have hge3: ¬(j:Int)<h.ms.length:=by omega
  repeat' first|refine sP ?_ ?_<;>intro hb<;>(try rw[hb])<;>(try simp only[bb]at hb)<;>(try simp only[within]at hb)<;>try simp only[go_sem,hge3,hpl']|refine aI ?_|simp only[go_sem,hge3,hpl']
theorem c177(h:House)(hk:okG h):PC prog 177 [hG h,.bool true] (.int .i64 0):=by
 have h57:=c55 h
 rw[show checkG h=0 from checkG0▸hk]at h57
 refine pB Tryz.func177 fun hlen=>CV.run ?_
 simp only[Tryz.f177]
 simp only[go_sem,length_map,and_true,true_and]at hlen
 repeat' first|refine sP ?_ ?_<;>intro hb<;>(try rw[hb])<;>(try simp only[bb]at hb)<;>(try simp only[within]at hb)<;>try simp only[go_sem]|refine aI ?_|with_reducible refine cq h57 ?_|simp only[go_sem]
theorem c157(h:House)(hk:okG h)(p:List (List Int))(hq:okQ h.ms.length h.bs.length p)(hn:p.flatten.Nodup):PC prog 157 [hG h,lP p] (.int .i64 0):=by
 have h57:=c55 h
 rw[show checkG h=0 from checkG0▸hk]at h57
 have h105:=c187 h hk p hq hn
 have h104:=c177 h hk
 refine pB Tryz.func157 fun hlen=>CV.run ?_
 simp only[Tryz.f157]
 simp only[go_sem,length_map,and_true,true_and]at hlen
 repeat' first|refine sP ?_ ?_<;>intro hb<;>(try rw[hb])<;>(try simp only[bb]at hb)<;>(try simp only[within]at hb)<;>try simp only[go_sem]|refine aI ?_|with_reducible refine dw sZ04c_f157 ?_|with_reducible refine cq h57 ?_|with_reducible refine cq h105 ?_|with_reducible refine cq h104 ?_|simp only[go_sem]
set_option maxHeartbeats 1000000 in
theorem h161(s:Int)(h0:0≤s)(h1:s<16):HCH prog 161 [.int .u64 s] [] fun r H'=>r= .row 0 (bitsP s 4).length∧H'=[.row 3 1 ((bitsP s 4).map encN) false]:=by
 refine HCH.body Tryz.func161 (by kernel_rfl) rfl (by simp[Tryz.f161]) ?_
 simp only[Tryz.f161]
 refine CV.run ?_
 repeat' first|refine sP ?_ ?_<;>intro hb<;>(try rw[hb])<;>(try simp only[bb]at hb)<;>(try simp only[within]at hb)<;>try simp only[go_sem]|refine aI ?_|simp only[go_sem]
 refine vc_fw (fun j=>⟨[(5,.int .i64 j),(3,.row 0 (bitsP s j).length),(0,.int .u64 s)],[.row 3 1 ((bitsP s j).map encN) false]⟩) 4 (fun _=>True) (.nilE 3 3 1 rfl (by omega) (.base (by(first|exact wk_same (by simp only[go_sem,ic,bitsP,map_nil])|(refine wk_drop ?_ ?_ ?_ ?_ ?_<;>simp only[go_sem,ic,bitsP,map_nil]))))) trivial ?_
 intro j hj _
 rcases Nat.lt_or_ge j 4 with hlt|hge
 ·have hlt':(j:Int)<4:=by omega
  have hl:=bitsP_len s j
  have d0:0≤s / 2^j:=Int.ediv_nonneg h0 (Int.le_of_lt (Int.pow_pos (by omega)))
  have d1:s / 2^j≤s:=Int.ediv_le_self _ h0
  have u0:U64 (s / 2^j)=True:=eq_true (by unfold U64;omega)
  have u1:U64 1=True:=eq_true (by unfold U64;omega)
  have a1:=and1 d0
  by_cases hc:s / 2^j % 2=1
  ·have e:bitsP s (j+1)=bitsP s j++[(j:Int)]:=by rw[bitsP,if_pos hc]
   repeat' first|refine sP ?_ ?_<;>intro hb<;>(try rw[hb])<;>(try simp only[bb]at hb)<;>(try simp only[within]at hb)<;>try simp only[go_sem,hlt',u0,u1,a1,hc,length_map]|refine aI ?_|simp only[go_sem,hlt',u0,u1,a1,hc,length_map]
   exact .base (by(first|exact wk_same (by simp only[go_sem,ic,e,map_append,length_append,encN])|(refine wk_drop ?_ ?_ ?_ ?_ ?_<;>simp only[go_sem,ic,e,map_append,length_append,encN])))
  ·have e:bitsP s (j+1)=bitsP s j:=by rw[bitsP,if_neg hc,append_nil]
   repeat' first|refine sP ?_ ?_<;>intro hb<;>(try rw[hb])<;>(try simp only[bb]at hb)<;>(try simp only[within]at hb)<;>try simp only[go_sem,hlt',u0,u1,a1,hc,length_map]|refine aI ?_|simp only[go_sem,hlt',u0,u1,a1,hc,length_map]
   exact .base (by(first|exact wk_same (by simp only[go_sem,ic,e])|(refine wk_drop ?_ ?_ ?_ ?_ ?_<;>simp only[go_sem,ic,e])))
 ·have:j=4:=by omega
  subst this
  repeat' first|refine sP ?_ ?_<;>intro hb<;>(try rw[hb])<;>(try simp only[bb]at hb)<;>(try simp only[within]at hb)<;>try simp only[go_sem,length_map]|refine aI ?_|simp only[go_sem,length_map]
def sZ04d_f84(_:Nat):List (Nat×Nat):=[(0,0),(0,0),(0,0),(0,0),(0,0),(0,0),(0,0),(0,0),(1,1),(1,1)]
attribute [go_sem] sZ04d_f84
theorem okQ.okP{h:House}{p:List (List Int)}(hk:okG h)(q:okQ h.ms.length h.bs.length p):okP h p:=by
 obtain⟨k1,k2,k3,k4,_⟩:=hk
 exact⟨by rw[q.len];exact Nat.le_refl _,fun l hl=>⟨by have:=q.short hl;omega,q.rng l hl⟩⟩
theorem tim_len(h:House)(p:List (List Int)):(tim h p).length=5:=by
 have: ∀(ms:List Mach) (p:List (List Int)) (T:List Int),(timF h ms p T).length=T.length:=by
  intro ms
  induction ms with
  |nil=>intro p T;rfl
  |cons m ms ih=>
   intro p T
   cases p with
   |nil=>rfl
   |cons l p=>rw[timF,ih,runM_len]
 exact this _ _ _
theorem rdy_len(h:House)(T:List Int):(rdy h T).length=4:=rdF_len T h.bs 0 r0
theorem ltG_bd{h:House}(hk:okG h)(R:List Int):0≤ltG h R∧ltG h R<16:=by
 have h1:=ltM_bd h R h.ts.length
 have h2:=pow_bd (i:=h.ts.length) hk.2.2.1
 unfold ltG
 omega
def lateP(h:House)(p:List (List Int)):List Int:=bitsP (ltG h (rdy h (tim h p))) 4
set_option maxHeartbeats 1000000 in
theorem h84(h:House)(hk:okG h)(p:List (List Int))(hq:okQ h.ms.length h.bs.length p)(hn:p.flatten.Nodup):HCH prog 84 [hG h,lP p] [] fun r H'=>r= .tup [.row 0 (lateP h p).length,.int .i64 0]∧H'=[.row 3 1 ((lateP h p).map encN) false]:=by
 refine HCH.onlyRow (pre:=[.box 26 (cG h) false]) (by rw[pureN];trivial) rfl ?_
 have c1:=c157 h hk p hq hn
 have c2:=c160 h hk p (hq.okP hk)
 have c3:=c159 h hk (tim h p) (tim_len h p)
 have c10':=c158 h hk (rdy h (tim h p)) (rdy_len h _)
 have hb:=ltG_bd hk (rdy h (tim h p))
 have c11:=h161 _ hb.1 hb.2
 refine HCH.body Tryz.func84 (by kernel_rfl) rfl (by simp[Tryz.f84]) ?_
 simp only[Tryz.f84]
 refine CV.run ?_
 repeat' first|refine sP ?_ ?_<;>intro hb<;>(try rw[hb])<;>(try simp only[bb]at hb)<;>(try simp only[within]at hb)<;>try simp only[go_sem]|refine aI ?_|with_reducible refine dw sZ04d_f84 ?_|with_reducible refine cq c1 ?_|simp only[go_sem]
 refine dp c2 ⟨pureL_mapI _,rfl,by(simp only[go_sem,frzL_mapI])⟩ ?_
 repeat' first|refine sP ?_ ?_<;>intro hb<;>(try rw[hb])<;>(try simp only[bb]at hb)<;>(try simp only[within]at hb)<;>try simp only[go_sem]|refine aI ?_|with_reducible refine dw sZ04d_f84 ?_|simp only[go_sem]
 refine dp c3 ⟨pureL_mapI _,by(simp only[go_sem,pureL_mapI]),by(simp only[go_sem,frzL_mapI])⟩ ?_
 repeat' first|refine sP ?_ ?_<;>intro hb<;>(try rw[hb])<;>(try simp only[bb]at hb)<;>(try simp only[within]at hb)<;>try simp only[go_sem]|refine aI ?_|with_reducible refine dw sZ04d_f84 ?_|simp only[go_sem]
 refine dp c10' ⟨rfl,by(simp only[go_sem,pureL_mapI]),by(simp only[go_sem,frzL_mapI])⟩ ?_
 repeat' first|refine sP ?_ ?_<;>intro hb<;>(try rw[hb])<;>(try simp only[bb]at hb)<;>(try simp only[within]at hb)<;>try simp only[go_sem]|refine aI ?_|with_reducible refine dw sZ04d_f84 ?_|simp only[go_sem]
 refine dCallC_here rfl (c11.newAt rfl _) ?_
 repeat' first|refine sP ?_ ?_<;>intro hb<;>(try rw[hb])<;>(try simp only[bb]at hb)<;>(try simp only[within]at hb)<;>try simp only[go_sem]|refine aI ?_|with_reducible refine dw sZ04d_f84 ?_|simp only[go_sem]
 exact⟨rfl,rfl⟩
def sZ04e_f85:Nat→List (Nat×Nat)
 |8=>[(0,0),(0,0),(0,0),(0,0),(0,0),(0,0),(0,0),(0,0),(0,0),(0,0),(0,0),(0,0),(0,0),(0,0),(0,0)]
 |11=>[(0,0),(0,0),(0,0),(0,0),(0,0),(0,0),(0,0),(0,0),(0,0),(0,0)]
 |_=>[]
attribute [go_sem] sZ04e_f85
def setPg(bo:Nat):List Int→List Int→List Int
 |[],s=>s
 |g::r,s=>setPg bo r (s.set (g.toNat*3+bo) 1)
def edP(a:Hall)(b:Int):List Int:=((a.es[((bunG a.hs b).ed).toNat]?).getD [])
def ownL(a:Hall)(bo:Nat):List Int→List Int→List Int
 |[],s=>s
 |b::l,s=>ownL a bo l (setPg bo (edP a b) s)
def boN(a:Hall)(m:Nat):Nat:=(gv a.bo m).toNat
def needF(a:Hall):Nat→List (List Int)→List Int→List Int
 |_,[],s=>s
 |m,l::p,s=>needF a (m+1) p (zipS (fun x y=>x+y) s (ownL a (boN a m) l zer12))
def needS(a:Hall)(p:List (List Int)):List Int:=needF a 0 p zer12
def okS(s:List Int)(k:Int):Prop:=s.length=12∧ ∀x,x∈s→0≤x∧x≤k
theorem okS.zero:okS zer12 0:=⟨rfl,by decide⟩
theorem okS.set{s:List Int}{k:Int}(h:okS s k)(hk:1≤k)(i:Nat):okS (s.set i 1) k:=⟨by simpa using h.1,fun x hx=>by
 rcases List.mem_or_eq_of_mem_set hx with hx|rfl
 ·exact h.2 x hx
 ·omega⟩
theorem okS.mono{s:List Int}{k k':Int}(h:okS s k)(hk:k≤k'):okS s k':=⟨h.1,fun x hx=>by have:=h.2 x hx;omega⟩
theorem mem_zip{φ:Int→Int→Int}{x:Int}: ∀{s t:List Int},x∈zipS φ s t→ ∃a b,a∈s∧b∈t∧x=φ a b
 |[],_,h=>by simp[zipS]at h
 |_::_,[],h=>by simp[zipS]at h
 |a::s,b::t,h=>by
  simp only[zipS,List.zipWith_cons_cons,List.mem_cons]at h
  rcases h with rfl|h
  ·exact⟨a,b,by simp,by simp,rfl⟩
  ·obtain⟨c,d,h1,h2,h3⟩:=mem_zip (s:=s) (t:=t) h
   exact⟨c,d,by simp[h1],by simp[h2],h3⟩
theorem okS.add{s t:List Int}{k k':Int}(h:okS s k)(h':okS t k'):okS (zipS (fun x y=>x+y) s t) (k+k'):=⟨zipS_len h.1 h'.1,fun x hx=>by
 obtain⟨a,b,h1,h2,rfl⟩:=mem_zip hx
 have:=h.2 a h1;have:=h'.2 b h2;omega⟩
theorem okS.max{s t:List Int}{k:Int}(h:okS s k)(h':okS t k):okS (zipS max s t) k:=⟨zipS_len h.1 h'.1,fun x hx=>by
 obtain⟨a,b,h1,h2,rfl⟩:=mem_zip hx
 have:=h.2 a h1;have:=h'.2 b h2;omega⟩
theorem okS.setPg{k:Int}(hk:1≤k)(bo:Nat): ∀(l s:List Int),okS s k→okS (Go.Proofs.YtoadkchhimojlaaGreatDoor.setPg bo l s) k
 |[],_,h=>h
 |_::l,_,h=>okS.setPg hk bo l _ (h.set hk _)
theorem okS.ownL{k:Int}(hk:1≤k)(a:Hall)(bo:Nat): ∀(l s:List Int),okS s k→okS (Go.Proofs.YtoadkchhimojlaaGreatDoor.ownL a bo l s) k
 |[],_,h=>h
 |_::l,_,h=>okS.ownL hk a bo l _ (h.setPg hk bo _ _)
theorem okS.needF(a:Hall): ∀(p:List (List Int)) (m:Nat) (s:List Int) (k:Int),okS s k→okS (Go.Proofs.YtoadkchhimojlaaGreatDoor.needF a m p s) (k+p.length)
 |[],_,_,_,h=>h.mono (by simp)
 |l::p,m,s,k,h=>by
  have h1:=okS.needF a p (m+1) _ _ (h.add (okS.ownL (by omega) a (boN a m) l _ (okS.zero.mono (show(0:Int)≤1 by omega))))
  have e:k+1+(p.length:Int)=k+((l::p).length:Nat):=by simp;omega
  rw[e]at h1
  exact h1
theorem okS.needS(a:Hall)(p:List (List Int)):okS (Go.Proofs.YtoadkchhimojlaaGreatDoor.needS a p) p.length:=by
 have:=okS.needF a p 0 _ _ okS.zero
 rw[Int.zero_add]at this
 exact this
theorem zer12_I:zer12.map I=[.int .i64 0,.int .i64 0,.int .i64 0,.int .i64 0,.int .i64 0,.int .i64 0,.int .i64 0,.int .i64 0,.int .i64 0,.int .i64 0,.int .i64 0,.int .i64 0]:=rfl
theorem edP_of{a:Hall}{b:Nat}{x:Bun}{e:List Int}(hx:a.hs.bs[b]? =some x)(h0:0≤x.ed)(he:a.es[x.ed.toNat]? =some e):edP a b=e:=by
 unfold edP bunG;simp[hx,he]
set_option maxHeartbeats 4000000 in
theorem c85(a:Hall)(ha:okH a)(p:List (List Int))(hp:okP a.hs p):PC prog 85 [hH a,lP p] (.agg ((needS a p).map I)):=by
 obtain⟨hk,b1,b2,b3,b4,b5⟩:=id ha
 obtain⟨k1,k2,k3,k4,k5,k6,k7,k8⟩:=id hk
 obtain⟨p1,p2⟩:=hp
 refine PC.body Tryz.func85 (by kernel_rfl) rfl (by simp[Tryz.f85]) (pureL_mapI _) ?_
 simp only[Tryz.f85]
 intro hlen
 simp only[go_sem,length_map,and_true,true_and]at hlen
 refine CV.run ?_
 repeat' first|refine sP ?_ ?_<;>intro hb<;>(try rw[hb])<;>(try simp only[bb]at hb)<;>(try simp only[within]at hb)<;>try simp only[go_sem]|refine aI ?_|with_reducible refine dw sZ04e_f85 ?_|simp only[go_sem]
 refine vc_fx (fun j (s:List Int)=>⟨[(14,.int .i64 j),(13,.int .i64 p.length),(12,lP p),(2,.lp 0 0),(4,.lp 1 0)],[.box 86 (cH a) false,.box 91 (s.map I) false]⟩) p.length (fun j s=>okS s j∧needF a j (p.drop j) s=needS a p) zer12 (.base (by(first|exact wk_same (by simp only[go_sem,ic,zer12_I])|(refine wk_drop ?_ ?_ ?_ ?_ ?_<;>simp only[go_sem,ic,zer12_I])))) ⟨okS.zero,rfl⟩ ?_
 intro j s hj ⟨hs,hx⟩
 have hsl:=hs.1
 have s12:(s.map I).length=12:=by simp[hsl]
 rcases Nat.lt_or_ge j p.length with hlt|hge
 ·obtain⟨l,hl⟩:=get_of hlt
  have hlt':(j:Int)<p.length:=by omega
  obtain⟨q1,q2⟩:=p2 l (mem_of_getElem? hl)
  obtain⟨bo,hbo⟩:=get_of (l:=a.bo) (j:=j) (by omega)
  have hbr:=b3 bo (mem_of_getElem? hbo)
  unfold within at hbr
  obtain⟨bn,rfl⟩: ∃k:Nat,bo=k:=⟨bo.toNat,by omega⟩
  have ebo:boN a j=bn:=by unfold boN;rw[gv_nat hbo];simp
  have hjb:(j:Int)<a.bo.length:=by omega
  have hb3:(bn:Int)<3:=by omega
  rw[drop_cons' hl,needF,ebo]at hx
  repeat' first|refine sP ?_ ?_<;>intro hb<;>(try rw[hb])<;>(try simp only[bb]at hb)<;>(try simp only[within]at hb)<;>try simp only[go_sem,hlt',hl,encP,s12,allOne_mapI]|refine aI ?_|with_reducible refine dw sZ04e_f85 ?_|simp only[go_sem,hlt',hl,encP,s12,allOne_mapI]
  refine vc_fx (fun i (o:List Int)=>⟨[(21,.int .i64 i),(20,.int .i64 l.length),(19,lN l),(5,.int .i64 j),(7,.lp 2 0),(14,.int .i64 j),(13,.int .i64 p.length),(12,lP p),(2,.lp 0 0),(4,.lp 1 0)],[.box 86 (cH a) false,.box 91 (s.map I) false,.box 91 (o.map I) false]⟩) l.length (fun i o=>okS o 1∧ownL a bn (l.drop i) o=ownL a bn l zer12) zer12 (.base (by(first|exact wk_same (by simp only[go_sem,ic,zer12_I])|(refine wk_drop ?_ ?_ ?_ ?_ ?_<;>simp only[go_sem,ic,zer12_I])))) ⟨okS.zero.mono (by omega),rfl⟩ ?_
  intro i o hi ⟨ho,hy⟩
  rcases Nat.lt_or_ge i l.length with hlt2|hge2
  ·obtain⟨b0,hb0⟩:=get_of hlt2
   have hlt2':(i:Int)<l.length:=by omega
   obtain⟨y1,y2⟩:=q2 b0 (mem_of_getElem? hb0)
   obtain⟨b,rfl⟩: ∃k:Nat,b0=k:=⟨b0.toNat,by omega⟩
   obtain⟨x,hxx⟩:=get_of (l:=a.hs.bs) (j:=b) (by omega)
   have hxm:=mem_of_getElem? hxx
   have hed:=(k8 x hxm).2.2
   unfold within at hed
   have hed2:=b5 x hxm
   obtain⟨e,he⟩:=get_of (l:=a.es) (j:=x.ed.toNat) (by omega)
   have hri:=b4 e (mem_of_getElem? he)
   have he4:=rise_le (i:=e.length) fun k hk=>hri k hk
   have heP:=edP_of hxx hed.1 he
   rw[drop_cons' hb0,ownL,heP]at hy
   have hyk:(b:Int)<a.hs.bs.length:=by omega
   repeat' first|refine sP ?_ ?_<;>intro hb<;>(try rw[hb])<;>(try simp only[bb]at hb)<;>(try simp only[within]at hb)<;>try simp only[go_sem,hlt2',hb0,hyk,hxx,hed.1,hed2,he,encN,encB,encP]|refine aI ?_|with_reducible refine dw sZ04e_f85 ?_|simp only[go_sem,hlt2',hb0,hyk,hxx,hed.1,hed2,he,encN,encB,encP]
   refine vc_fx (fun q (u:List Int)=>⟨[(39,.int .i64 q),(38,.int .i64 e.length),(37,lN e),(21,.int .i64 i),(20,.int .i64 l.length),(19,lN l),(5,.int .i64 j),(7,.lp 2 0),(14,.int .i64 j),(13,.int .i64 p.length),(12,lP p),(2,.lp 0 0),(4,.lp 1 0)],[.box 86 (cH a) false,.box 91 (s.map I) false,.box 91 (u.map I) false]⟩) e.length (fun q u=>okS u 1∧setPg bn (e.drop q) u=setPg bn e o) o (.base (by exact w0)) ⟨ho,rfl⟩ ?_
   intro q u hqe ⟨hu,hz⟩
   have hul:=hu.1
   rcases Nat.lt_or_ge q e.length with hlt3|hge3
   ·obtain⟨g0,hg0,hgw,_⟩:=hri q hlt3
    unfold within at hgw
    have hlt3':(q:Int)<e.length:=by omega
    obtain⟨g,rfl⟩: ∃k:Nat,g0=k:=⟨g0.toNat,by omega⟩
    have hg4:(g:Int)<4:=by omega
    have hoff:g*3+bn<u.length:=by omega
    have hoff2:g*3+bn+1≤12:=by omega
    rw[drop_cons' hg0,setPg,Int.toNat_natCast]at hz
    repeat' first|refine sP ?_ ?_<;>intro hb<;>(try rw[hb])<;>(try simp only[bb]at hb)<;>(try simp only[within]at hb)<;>try simp only[go_sem,hlt3',hg0,hjb,hbo,hb3,hg4,hul,hoff2,put0' hoff,encN,length_map,Nat.mul_one]|refine aI ?_|with_reducible refine dw sZ04e_f85 ?_|simp only[go_sem,hlt3',hg0,hjb,hbo,hb3,hg4,hul,hoff2,put0' hoff,encN,length_map,Nat.mul_one]
    exact⟨u.set (g*3+bn) 1,hlt3,.base (by(first|exact wk_same (by simp only[go_sem,ic,put0' hoff])|(refine wk_drop ?_ ?_ ?_ ?_ ?_<;>simp only[go_sem,ic,put0' hoff]))),hu.set (by omega) _,hz⟩
   ·have hge3': ¬(q:Int)<e.length:=by omega
    have:q=e.length:=by omega
    subst this
    rw[drop_length,setPg]at hz
    subst hz
    repeat' first|refine sP ?_ ?_<;>intro hb<;>(try rw[hb])<;>(try simp only[bb]at hb)<;>(try simp only[within]at hb)<;>try simp only[go_sem,hge3']|refine aI ?_|with_reducible refine dw sZ04e_f85 ?_|simp only[go_sem,hge3']
    exact⟨setPg bn e o,hlt2,.base (by exact w0),hu,hy⟩
  ·have hge2': ¬(i:Int)<l.length:=by omega
   have:i=l.length:=by omega
   subst this
   rw[drop_length,ownL]at hy
   subst hy
   have h63:=c151 162 (fun x y=>x+y) s (ownL a bn l zer12) hs.1 ho.1 fun x y h1 h2=>c162 x y (by have:=hs.2 x h1;have:=ho.2 y h2;unfold I64;omega)
   have hz:=zipS_len (φ:=fun x y=>x+y) hs.1 ho.1
   repeat' first|refine sP ?_ ?_<;>intro hb<;>(try rw[hb])<;>(try simp only[bb]at hb)<;>(try simp only[within]at hb)<;>try simp only[go_sem,hge2',allOne_mapI,tk12 hs.1,tk12 ho.1,tk12 hz,dr12 hs.1,dr12 ho.1,dr12 hz,hs.1,ho.1,hz,length_map,append_nil]|refine aI ?_|with_reducible refine dw sZ04e_f85 ?_|simp only[go_sem,hge2',allOne_mapI,tk12 hs.1,tk12 ho.1,tk12 hz,dr12 hs.1,dr12 ho.1,dr12 hz,hs.1,ho.1,hz,length_map,append_nil]
   refine vcP_pure h63 (pureL_mapI _) (by(simp only[go_sem,pureL_mapI,AV.pureL,AV.pure,Bool.and_self])) (by(simp only[go_sem,frzL_mapI])) ?_
   repeat' first|refine sP ?_ ?_<;>intro hb<;>(try rw[hb])<;>(try simp only[bb]at hb)<;>(try simp only[within]at hb)<;>try simp only[go_sem,hge2',allOne_mapI,tk12 hs.1,tk12 ho.1,tk12 hz,dr12 hs.1,dr12 ho.1,dr12 hz,hs.1,ho.1,hz,length_map,append_nil,frzL_mapI]|refine aI ?_|with_reducible refine dw sZ04e_f85 ?_|simp only[go_sem,hge2',allOne_mapI,tk12 hs.1,tk12 ho.1,tk12 hz,dr12 hs.1,dr12 ho.1,dr12 hz,hs.1,ho.1,hz,length_map,append_nil,frzL_mapI]
   exact⟨zipS (fun x y=>x+y) s (ownL a bn l zer12),hlt,.base (by exact w0),by have:=hs.add ho;simpa using this,hx⟩
 ·have hge': ¬(j:Int)<p.length:=by omega
  have:j=p.length:=by omega
  subst this
  rw[drop_length,needF]at hx
  subst hx
  repeat' first|refine sP ?_ ?_<;>intro hb<;>(try rw[hb])<;>(try simp only[bb]at hb)<;>(try simp only[within]at hb)<;>try simp only[go_sem,hge',allOne_mapI,tk12 hs.1,dr12 hs.1,hs.1,length_map,append_nil,frzL_mapI]|refine aI ?_|with_reducible refine dw sZ04e_f85 ?_|simp only[go_sem,hge',allOne_mapI,tk12 hs.1,dr12 hs.1,hs.1,length_map,append_nil,frzL_mapI]
def addF(F:List (List Int×Int))(k:List Int):List (List Int×Int):=stR (upR F k) (idR F k).1 ((idR F k).2+1)
def stN(a:Hall)(F:List (List Int×Int))(p:List (List Int)):List (List Int×Int):=if(lateP a.hs p).length=0 then addF F (needS a p)else F
theorem lkR_mem: ∀{l:List (List Int×Int)} {k:List Int} {r:Nat×Int},lkR l k=some r→r.1<l.length∧l[r.1]? =some (k,r.2):=fun h=>by
 have:=lkR_get h
 exact⟨(List.getElem?_eq_some_iff.1 this).1,this⟩
theorem idR_lt(F:List (List Int×Int))(k:List Int):(idR F k).1<(upR F k).length:=by
 unfold idR upR
 cases h:lkR F k with
 |none=>simp
 |some r=>simpa using (lkR_mem h).1
def okF(F:List (List Int×Int))(c:Nat):Prop:= ∀e,e∈F→okS e.1 3∧0≤e.2∧e.2≤c
theorem okF.id{F:List (List Int×Int)}{c:Nat}(h:okF F c)(k:List Int):0≤(idR F k).2∧(idR F k).2≤c:=by
 unfold idR
 cases hl:lkR F k with
 |none=>simp
 |some r=>
  have:=h _ (mem_of_getElem? (lkR_mem hl).2)
  simpa using this.2
theorem mem_modify{α:Type}{f:α→α}{x:α}: ∀{l:List α} {j:Nat},x∈l.modify j f→x∈l∨ ∃y,l[j]? =some y∧x=f y:=fun {l j} h=>by
 obtain⟨i,hi⟩:=List.mem_iff_getElem?.1 h
 rw[List.getElem?_modify]at hi
 obtain⟨y,hy,rfl⟩:=Option.map_eq_some_iff.1 hi
 split
 ·rename_i e;subst e;exact .inr ⟨y,hy,rfl⟩
 ·exact .inl (mem_of_getElem? hy)
theorem okF.add{F:List (List Int×Int)}{c:Nat}(h:okF F c){k:List Int}(hk:okS k 3):okF (addF F k) (c+1):=by
 intro e he
 have hb:=h.id k
 have hup: ∀e,e∈upR F k→okS e.1 3∧0≤e.2∧e.2≤c:=fun e he=>by
  unfold upR at he
  split at he
  ·exact h e he
  ·rcases List.mem_append.1 he with he|he
   ·exact h e he
   ·rw[List.mem_singleton.1 he];exact⟨hk,by simp⟩
 rcases mem_modify he with he|⟨y,hy,rfl⟩
 ·have:=hup e he;exact⟨this.1,by omega,by omega⟩
 ·have:=hup y (mem_of_getElem? hy)
  exact⟨this.1,by simp only;omega,by simp only;omega⟩
theorem okF.step{a:Hall}{F:List (List Int×Int)}{c:Nat}(h:okF F c){p:List (List Int)}(hp:p.length≤3):okF (stN a F p) (c+1):=by
 unfold stN
 split
 ·exact h.add ((okS.needS a p).mono (by omega))
 ·exact fun e he=>by have:=h e he;exact⟨this.1,by omega,by omega⟩
theorem okF.fold{a:Hall}: ∀{L:List (List (List Int))} {F:List (List Int×Int)} {c:Nat},okF F c→(∀p,p∈L→p.length≤3)→okF (L.foldl (stN a) F) (c+L.length)
 |[],_,_,h,_=>h
 |p::L,F,c,h,hl=>by
  have:=okF.fold (a:=a) (L:=L) (h.step (a:=a) (hl p (by simp))) fun q hq=>hl q (by simp[hq])
  rw[List.foldl_cons,length_cons,show c+(L.length+1)=c+1+L.length by omega]
  exact this
theorem plansF_ok{k nb:Nat}{stop:Int}: ∀(f m:Nat) (p:List (List Int)),okQ k nb p→p.flatten.Nodup→m≤k→ ∀q,q∈plansF k stop nb f m p→okQ k nb q∧q.flatten.Nodup
 |0,m,p,_,_,_,q,h=>by simp[plansF]at h
 |f+1,m,p,hq,hn,hm,q,h=>by
  rw[plansF]at h
  split at h
  ·rw[List.mem_singleton.1 h];exact⟨hq,hn⟩
  ·rename_i hmk
   rcases List.mem_append.1 h with h|h
   ·exact plansF_ok f (m+1) p hq hn (by omega) q h
   ·split at h
    ·simp at h
    ·obtain⟨b,h1,h2⟩:=List.mem_flatMap.1 h
     obtain⟨h3,h4⟩:=List.mem_filter.1 h1
     have hb:=List.mem_range.1 h3
     have hu:usd p b=false:=by simpa using h4
     exact plansF_ok f m (addB p m b) (hq.add (by omega) hb hu) (nodup_add (by rw[hq.len];omega) hn hu) hm q h2
theorem plansF_len{k nb:Nat}{stop:Int}: ∀(f m:Nat) (p:List (List Int)),(plansF k stop nb f m p).length≤(nb+1)^f
 |0,m,p=>by simp[plansF]
 |f+1,m,p=>by
  rw[plansF]
  split
  ·exact Nat.one_le_pow _ _ (by omega)
  ·rw[length_append,Nat.pow_succ]
   have h1:=plansF_len (k:=k) (nb:=nb) (stop:=stop) f (m+1) p
   have h2: ∀l:List Nat,(l.flatMap fun b=>plansF k stop nb f m (addB p m b)).length≤l.length*(nb+1)^f:=by
    intro l
    induction l with
    |nil=>simp
    |cons b l ih=>
     have:=plansF_len (k:=k) (nb:=nb) (stop:=stop) f m (addB p m b)
     rw[List.flatMap_cons,length_append,length_cons,Nat.succ_mul];omega
   have h3:=h2 ((List.range nb).filter fun b=> !usd p b)
   have h4:((List.range nb).filter fun b=> !usd p b).length≤nb:=Nat.le_trans (List.length_filter_le _ _) (by simp)
   have h5:=Nat.mul_le_mul_right ((nb+1)^f) h4
   rw[Nat.mul_add,Nat.mul_one,Nat.mul_comm]
   split
   ·simp;omega
   ·omega
theorem adds_pre {k : Nat} {stop : Int} {nb f m : Nat} {p : List (List Int)} {i : Nat} : ∀ {n : Nat}, i ≤ n → ∃ r, adds k stop nb f m p n = adds k stop nb f m p i ++ r
  | 0, h => ⟨[], by have : i = 0 := by omega
                    subst this; simp⟩
  | n + 1, h => by
    rcases Nat.lt_or_ge i (n + 1) with h1 | h1
    · obtain ⟨r, hr⟩ := adds_pre (n := n) (show i ≤ n by omega)
      cases hu : usd p n with
      | true => rw [adds_yes hu]; exact ⟨r, hr⟩
      | false => rw [adds_no hu, hr, append_assoc]; exact ⟨_, rfl⟩
    · have : i = n + 1 := by omega
      subst this; exact ⟨[], by simp⟩
theorem intsA_mapI: ∀k:List Int,intsA (k.map I)=some k
 |[]=>rfl
 |x::k=>by simp only[map_cons,I,intsA];rw[intsA_mapI k];rfl
theorem safeL_mapI: ∀s:List Int,safeL (s.map I)=true
 |[]=>rfl
 |x::s=>by simp only[map_cons,safeL,safeL_mapI s];rfl
abbrev rowE(p:List (List Int))(g:Nat→Nat)(m:Nat):List AV:=[.rg (m+7) (p.getD m []).length (g m)]
abbrev rgE(p:List (List Int))(j:Nat→List Int)(g:Nat→Nat)(m:Nat):Blk:= .rg 3 1 ((p.getD m []++j m).map encN) (g m)
abbrev capsN:List AV:=[.lp 5 0,.lp 0 0,.lp 3 0,.lp 6 0,.lp 1 0]
abbrev ownN(a:Hall)(stop:Int)(mg:Nat)(F:List (List Int×Int))(p:List (List Int))(j:Nat→List Int)(g:Nat→Nat):Heap:=
 .box 86 (cH a) false:: .box 3 [.int .i64 stop] false:: .raw mg (.map F):: .box 152 [.mp mg] false:: .row 24 1 ((List.range a.hs.ms.length).map (rowE p g)) false:: .box 27 [.row 4 a.hs.ms.length] false:: .box 153 [.fn 83 capsN] false::(List.range a.hs.ms.length).map (rgE p j g)
theorem rng_get{n m:Nat}(h:m<n):(List.range n)[m]? =some m:=by simp[h]
theorem map_rng_set{α:Type}{f f':Nat→α}{n m:Nat}{v:α}(hv:v=f' m)(hf: ∀i,i≠m→f i=f' i):((List.range n).map f).set m v=(List.range n).map f':=by
 apply List.ext_getElem?
 intro i
 rw[List.getElem?_set]
 by_cases e:m=i
 ·subst e
  simp only[if_true,length_map,length_range]
  split
  ·simp[*]
  ·simp only[List.getElem?_map]
   rw[List.getElem?_eq_none (by simp;omega)];rfl
 ·rw[if_neg e]
  simp only[List.getElem?_map]
  by_cases h:i<n
  ·rw[rng_get h];simp[hf i (fun e2=>e e2.symm)]
  ·rw[List.getElem?_eq_none (by simp;omega)];rfl
theorem frzP{H:Heap}{k:Nat}{p:List (List Int)}{j:Nat→List Int}{g:Nat→Nat}(hp:p.length=k)(hr: ∀m,m<k→H[m+7]? =some (rgE p j g m)):
  frzE H ((List.range k).map (rowE p g)) (p.map encP)=True:=by
 have key: ∀(q:List (List Int)) (i:Nat),(∀m,m<q.length→q[m]? =p[i+m]?)→i+q.length=k→frzE H ((List.range' i q.length).map (rowE p g)) (q.map encP):=by
  intro q
  induction q with
  |nil=>intro i _ _;rfl
  |cons l q ih=>
   intro i h1 h2
   have h0:=h1 0 (by simp)
   simp only[List.getElem?_cons_zero,Nat.add_zero]at h0
   have hl:p.getD i []=l:=by rw[List.getD_eq_getElem?_getD,← h0];rfl
   simp only[length_cons,List.range'_succ,map_cons]
   simp only[length_cons]at h2
   refine⟨⟨⟨rfl,?_⟩,rfl⟩,ih (i+1) (fun m hm=>by have:=h1 (m+1) (by simpa using hm);simpa[Nat.add_assoc,Nat.add_comm 1 m]using this) (by omega)⟩
   rw[hr i (by omega)]
   refine⟨rfl,rfl,?_⟩
   rw[hl,map_append,List.take_left' (by simp)]
   exact frzE_self H _ (by rw[pureN];trivial)
 have:=key p 0 (fun m _=>by rw[Nat.zero_add]) (by omega)
 rw[hp,← List.range_eq_range']at this
 exact eq_true this
def sZ04g_f83:Nat→List (Nat×Nat)
 |3=>[(0,0),(0,0),(0,0),(0,0),(0,1),(0,1),(0,0),(1,1),(0,0)]
 |10=>[(0,1),(0,1),(0,0),(0,0),(0,0),(0,0),(0,0),(0,0),(0,0),(1,1),(0,0)]
 |11=>[(0,0),(0,0),(0,0),(0,0),(0,0),(0,0),(0,0)]
 |12=>[(0,0),(0,0),(0,0),(0,0),(0,0),(0,0),(0,0),(0,0),(0,0),(0,0),(0,0),(0,0),(0,0),(0,0),(0,0)]
 |_=>[]
attribute [go_sem] sZ04g_f83
theorem argEnv7{a b c d e f g:AV}:argEnv 0 [a,b,c,d,e,f,g]=[(0,a),(1,b),(2,c),(3,d),(4,e),(5,f),(6,g)]:=rfl
attribute [go_sem] argEnv7
theorem dsx{P:Program}{g:FuncId}{args a2 a3:List AV}{dst:Option Nat}{lo hi:Nat}{s:DS}{K:DS→Prop}{v:AV}(hc:PC P g a2 v)(hv:v.pure=true)(hs:safeV v=true)(h:K (dPutF s dst v lo hi fun H=>frzL H args a2)):dCallP P g args a3 dst lo hi s K:=by
 unfold dCallP;exact⟨v,_,fun H hf=>hc.use (handsOn_safe hs hf) hv,h⟩
theorem safeN(l:List Int): ∀e,e∈l.map encN→safeL e=true:=fun e he=>by
 obtain⟨x,_,rfl⟩:=List.mem_map.1 he;rfl
theorem lkR_app: ∀{l:List (List Int×Int)} {k:List Int} {n:Int},lkR l k=none→lkR (l++[(k,n)]) k=some (l.length,n)
 |[],k,n,_=>by simp[lkR]
 |x::l,k,n,h=>by
  simp only[lkR]at h
  split at h
  ·cases h
  ·rename_i hx
   have ih:=lkR_app (l:=l) (k:=k) (n:=n) (by simpa using h)
   simp only[List.cons_append,lkR,if_neg hx,ih,Option.map_some,length_cons]
theorem idR_up(F:List (List Int×Int))(k:List Int):(idR (upR F k) k).2=(idR F k).2:=by
 unfold upR
 cases h:lkR F k with
 |none=>simp only[Option.isSome_none,Bool.false_eq_true,if_false,idR,lkR_app h,h];rfl
 |some r=>simp
theorem upR_len{F:List (List Int×Int)}{k:List Int}(h: ∀e,e∈F→e.1.length=12)(hk:k.length=12): ∀e,e∈upR F k→e.1.length=12:=fun e he=>by
 unfold upR at he
 split at he
 ·exact h e he
 ·rcases List.mem_append.1 he with he|he
  ·exact h e he
  ·rw[List.mem_singleton.1 he];exact hk
theorem pfx_app: ∀{A B:Heap},pfx A (A++B)
 |[],_=>trivial
 |_::A,B=>⟨rfl,pfx_app⟩
theorem belowH_all{n:Nat}: ∀{H:Heap},(∀x,x∈H→belowB n x)→belowH n H
 |[],_=>trivial
 |x::H,h=>⟨h x (by simp),belowH_all fun y hy=>h y (by simp[hy])⟩
theorem belowH_rg{n k:Nat}{p:List (List Int)}{j:Nat→List Int}{g:Nat→Nat}:belowH n ((List.range k).map (rgE p j g)):=belowH_all fun x hx=>by
 obtain⟨m,_,rfl⟩:=List.mem_map.1 hx
 intro e he
 obtain⟨y,_,rfl⟩:=List.mem_map.1 he
 rfl
theorem own_wk{a:Hall}(ha:okH a){stop:Int}{mg:Nat}{F:List (List Int×Int)}{p:List (List Int)}{j:Nat→List Int}{g:Nat→Nat}{T:Heap}{env:Env}{m:Nat}(hm:m≤a.hs.ms.length+7):Wn m ⟨env,ownN a stop mg F p j g++T⟩ ⟨[],ownN a stop mg F p j g⟩:=by
 obtain⟨⟨k1,_⟩,_⟩:=ha
 have hl:(ownN a stop mg F p j g).length=a.hs.ms.length+7:=by simp
 refine .base (wk_drop trivial pfx_app (by rw[hl];exact hm) trivial ?_)
 rw[hl]
 refine⟨rfl,rfl,trivial,rfl,fun e he=>?_,?_,?_,belowH_rg⟩
 ·obtain⟨m,h1,rfl⟩:=List.mem_map.1 he
  have:=List.mem_range.1 h1
  simp[belowL,belowV];omega
 ·simp[belowB,belowL,belowV]
 ·simp[belowB,belowL,belowV]
set_option maxHeartbeats 8000000 in
theorem c83(a:Hall)(ha:okH a)(stop:Int)(mg:Nat):
  ∀(f m:Nat) (p:List (List Int)) (F:List (List Int×Int)) (c:Nat) (j:Nat→List Int) (g:Nat→Nat),okQ a.hs.ms.length a.hs.bs.length p→p.flatten.Nodup→m≤a.hs.ms.length→(a.hs.ms.length-m)+cnt (usd p) a.hs.bs.length+1≤f→okF F c→c+(plansF a.hs.ms.length stop a.hs.bs.length f m p).length≤100000→
   ∃(j':Nat→List Int) (g':Nat→Nat),HCH prog 83 (.int .i64 m:: .int .i64 (bs (usd p) 5:Nat)::capsN) (ownN a stop mg F p j g) fun r H'=>r= .tup []∧H'=ownN a stop mg ((plansF a.hs.ms.length stop a.hs.bs.length f m p).foldl (stN a) F) p j' g':=by
 obtain⟨hk,b1,b2,b3,b4,b5⟩:=id ha
 obtain⟨k1,k2,k3,k4,k5,k6,k7,k8⟩:=id hk
 intro f
 induction f with
 |zero=>intro m p F c j g hq hn hm hf;omega
 |succ f ih=>
  intro m p F c j g hq hn hm hf hF hc
  by_cases hmk:m=a.hs.ms.length
  ·subst hmk
   refine⟨j,g,?_⟩
   refine HCH.bodyN Tryz.func83 (by kernel_rfl) rfl (by simp[Tryz.f83]) ?_
   simp only[Tryz.f83]
   refine CV.run ?_
   have e:plansF a.hs.ms.length stop a.hs.bs.length (f+1) a.hs.ms.length p=[p]:=by simp[plansF]
   rw[e]
   have c1:=h84 a.hs hk p hq hn
   have c2:=c85 a ha p (hq.okP hk)
   have hrow: ∀(F':List (List Int×Int)) (T:Heap) i,i<a.hs.ms.length→(ownN a stop mg F' p j g++T)[i+7]? =some (rgE p j g i):=fun F' T i hi=>by
    rw[List.getElem?_append_left (by simp;omega)]
    simp[rng_get hi]
   have hfz:=fun F' T=>frzP (j:=j) (g:=g) hq.len (hrow F' T)
   have hfz0:=hfz F []
   rw[append_nil]at hfz0
   simp only[List.cons_append]at hfz
   repeat' first|refine sP ?_ ?_<;>intro hb<;>(try rw[hb])<;>(try simp only[bb]at hb)<;>(try simp only[within]at hb)<;>try simp only[go_sem,length_range]|refine aI ?_|with_reducible refine dw sZ04g_f83 ?_|simp only[go_sem,length_range]
   refine vcP_fnew c1 (by(simp only[go_sem,hfz0,length_range])) rfl ⟨safeN _,trivial⟩ ?_
   by_cases hl:(lateP a.hs p).length=0
   ·have hl':((lateP a.hs p).length:Int)=0:=by omega
    have hs12:=(okS.needS a p).1
    have hk12:(∀e,e∈F→e.1.length=12)=True:=eq_true fun e he=>(hF e he).1.1
    have hid:=hF.id (needS a p)
    have hid2:I64 ((idR F (needS a p)).2+1)=True:=eq_true (by unfold I64;omega)
    have hlt:=idR_lt F (needS a p)
    have hlt':((idR F (needS a p)).1:Int)<(upR F (needS a p)).length:=by omega
    have hst:stN a F p=stR (upR F (needS a p)) (idR F (needS a p)).1 ((idR F (needS a p)).2+1):=by rw[stN,if_pos hl];rfl
    repeat' first|refine sP ?_ ?_<;>intro hb<;>(try rw[hb])<;>(try simp only[bb]at hb)<;>(try simp only[within]at hb)<;>try simp only[go_sem,length_range,hl']|refine aI ?_|with_reducible refine dw sZ04g_f83 ?_|simp only[go_sem,length_range,hl']
    refine dsx c2 (pureL_mapI _) (safeL_mapI _) ?_
    repeat' first|refine sP ?_ ?_<;>intro hb<;>(try rw[hb])<;>(try simp only[bb]at hb)<;>(try simp only[within]at hb)<;>try simp only[go_sem,length_range,hfz,findR,intsA_mapI,hk12,hs12,hid2,hlt']|refine aI ?_|with_reducible refine dw sZ04g_f83 ?_|simp only[go_sem,length_range,hfz,findR,intsA_mapI,hk12,hs12,hid2,hlt']
    refine⟨⟨fun _=>upR_len (fun e he=>(hF e he).1.1) hs12,by rw[idR_up]⟩,⟨[],ownN a stop mg (stN a F p) p j g⟩,?_,rfl⟩
    rw[hst]
    exact own_wk ha (by omega)
   ·have hl': ¬((lateP a.hs p).length:Int)=0:=by omega
    repeat' first|refine sP ?_ ?_<;>intro hb<;>(try rw[hb])<;>(try simp only[bb]at hb)<;>(try simp only[within]at hb)<;>try simp only[go_sem,length_range,hl']|refine aI ?_|with_reducible refine dw sZ04g_f83 ?_|simp only[go_sem,length_range,hl']
    refine⟨⟨[],ownN a stop mg F p j g⟩,own_wk ha (by omega),?_⟩
    rw[List.foldl_cons,List.foldl_nil,stN,if_neg hl]
  ·have hlt:m<a.hs.ms.length:=by omega
   have hne:(m:Int)≠a.hs.ms.length:=by omega
   have hI:I64 ((m:Int)+1)=True:=eq_true (by unfold I64;omega)
   have eP:plansF a.hs.ms.length stop a.hs.bs.length (f+1) m p=plansF a.hs.ms.length stop a.hs.bs.length f (m+1) p++(if(m:Int)=stop then []else adds a.hs.ms.length stop a.hs.bs.length f m p a.hs.bs.length):=by simp[plansF,hmk,adds]
   rw[eP]at hc ⊢
   have hall:=fun q hq'=>(plansF_ok (stop:=stop) (f+1) m p hq hn hm q (by rw[eP];exact hq')).1.len
   have hL1:c+(plansF a.hs.ms.length stop a.hs.bs.length f (m+1) p).length≤100000:=by rw[length_append]at hc;omega
   obtain⟨j1,g1,h1⟩:=ih (m+1) p F c j g hq hn hlt (by omega) hF hL1
   generalize plansF a.hs.ms.length stop a.hs.bs.length f (m+1) p=L1 at hc hall hL1 h1 ⊢
   by_cases hst:(m:Int)=stop
   ·rw[if_pos hst,append_nil]
    refine⟨j1,g1,?_⟩
    refine HCH.bodyN Tryz.func83 (by kernel_rfl) rfl (by simp[Tryz.f83]) ?_
    simp only[Tryz.f83]
    refine CV.run ?_
    repeat' first|refine sP ?_ ?_<;>intro hb<;>(try rw[hb])<;>(try simp only[bb]at hb)<;>(try simp only[within]at hb)<;>try simp only[go_sem,length_range,hne,hI]|refine aI ?_|with_reducible refine dw sZ04g_f83 ?_|simp only[go_sem,length_range,hne,hI]
    refine vcP_raw (h1.mono ?_)
    rintro r H' ⟨rfl,rfl⟩
    repeat' first|refine sP ?_ ?_<;>intro hb<;>(try rw[hb])<;>(try simp only[bb]at hb)<;>(try simp only[within]at hb)<;>try simp only[go_sem,length_range,hst]|refine aI ?_|with_reducible refine dw sZ04g_f83 ?_|simp only[go_sem,length_range,hst]
    exact⟨⟨[],_⟩,.base (wk_same trivial),rfl⟩
   ·rw[if_neg hst]at hc hall ⊢
    have hsub: ∀(i:Nat) (x:(Nat→List Int)×(Nat→Nat)),∃ y:(Nat→List Int)×(Nat→Nat),i<a.hs.bs.length→usd p i=false→
      HCH prog 83 (.int .i64 m:: .int .i64 (bs (usd (addB p m i)) 5:Nat)::capsN) (ownN a stop mg ((L1++adds a.hs.ms.length stop a.hs.bs.length f m p i).foldl (stN a) F) (addB p m i) x.1 x.2) fun r H'=>r= .tup []∧H'=ownN a stop mg ((L1++adds a.hs.ms.length stop a.hs.bs.length f m p (i+1)).foldl (stN a) F) (addB p m i) y.1 y.2:=by
     intro i x
     by_cases hi:i<a.hs.bs.length∧usd p i=false
     ·obtain⟨hi,hu⟩:=hi
      have hadd:=adds_no (k:=a.hs.ms.length) (stop:=stop) (nb:=a.hs.bs.length) (f:=f) (m:=m) hu
      have hq':=hq.add (m:=m) (b:=i) hlt hi hu
      have hmp:m<p.length:=by rw[hq.len];exact hlt
      have hn':=nodup_add (m:=m) (b:=i) hmp hn hu
      obtain⟨r,hr⟩:=adds_pre (k:=a.hs.ms.length) (stop:=stop) (nb:=a.hs.bs.length) (f:=f) (m:=m) (p:=p) (show i+1≤a.hs.bs.length from hi)
      have hF1:okF ((L1++adds a.hs.ms.length stop a.hs.bs.length f m p i).foldl (stN a) F) (c+(L1++adds a.hs.ms.length stop a.hs.bs.length f m p i).length):=hF.fold fun q hq2=>by
       have:=hall q (by rw[hr,hadd,← append_assoc,← append_assoc];simp only[List.mem_append]at hq2 ⊢;exact .inl (.inl hq2))
       omega
      obtain⟨j3,g3,h3⟩:=ih m (addB p m i) _ _ x.1 x.2 hq' hn' (by omega) (by have:=cnt_add hu (usd_add (b:=i) hmp) a.hs.bs.length hi;omega) hF1 (by
       rw[hr,hadd]at hc
       simp only[length_append]at hc ⊢
       omega)
      refine⟨(j3,g3),fun _ _=>?_⟩
      have e:=fun X Y=>List.foldl_append (f:=stN a) (b:=F) (l:=X) (l':=Y)
      rw[hadd,← append_assoc,e (L1++adds a.hs.ms.length stop a.hs.bs.length f m p i)]
      exact h3
     ·exact⟨x,fun h1 h2=>absurd ⟨h1,h2⟩ hi⟩
    obtain⟨step,hstep⟩: ∃step:Nat→(Nat→List Int)×(Nat→Nat)→(Nat→List Int)×(Nat→Nat),∀ i x,i<a.hs.bs.length→usd p i=false→HCH prog 83 (.int .i64 m:: .int .i64 (bs (usd (addB p m i)) 5:Nat)::capsN) (ownN a stop mg ((L1++adds a.hs.ms.length stop a.hs.bs.length f m p i).foldl (stN a) F) (addB p m i) x.1 x.2) fun r H'=>r= .tup []∧H'=ownN a stop mg ((L1++adds a.hs.ms.length stop a.hs.bs.length f m p (i+1)).foldl (stN a) F) (addB p m i) (step i x).1 (step i x).2:=
     ⟨fun i x=>(hsub i x).choose,fun i x=>(hsub i x).choose_spec⟩
    let S:Nat→(Nat→List Int)×(Nat→Nat):=fun n=>Nat.rec (j1,g1) (fun i x=>if usd p i=true then x else((fun z=>if z=m then(i:Int)::(step i (fun z=>if z=m then []else x.1 z,fun z=>if z=m then x.2 m+1 else x.2 z)).1 m else(step i (fun z=>if z=m then []else x.1 z,fun z=>if z=m then x.2 m+1 else x.2 z)).1 z),(step i (fun z=>if z=m then []else x.1 z,fun z=>if z=m then x.2 m+1 else x.2 z)).2)) n
    have S0:S 0=(j1,g1):=rfl
    have Sy: ∀i,usd p i=true→S (i+1)=S i:=fun i h=>if_pos h
    have Sn: ∀i,usd p i=false→S (i+1)=((fun z=>if z=m then(i:Int)::(step i (fun z=>if z=m then []else(S i).1 z,fun z=>if z=m then(S i).2 m+1 else(S i).2 z)).1 m else(step i (fun z=>if z=m then []else(S i).1 z,fun z=>if z=m then(S i).2 m+1 else(S i).2 z)).1 z),(step i (fun z=>if z=m then []else(S i).1 z,fun z=>if z=m then(S i).2 m+1 else(S i).2 z)).2):=fun i h=>if_neg (by rw[h];simp)
    clear_value S
    refine⟨(S a.hs.bs.length).1,(S a.hs.bs.length).2,?_⟩
    refine HCH.bodyN Tryz.func83 (by kernel_rfl) rfl (by simp[Tryz.f83]) ?_
    simp only[Tryz.f83]
    refine CV.run ?_
    repeat' first|refine sP ?_ ?_<;>intro hb<;>(try rw[hb])<;>(try simp only[bb]at hb)<;>(try simp only[within]at hb)<;>try simp only[go_sem,length_range,hne,hI]|refine aI ?_|with_reducible refine dw sZ04g_f83 ?_|simp only[go_sem,length_range,hne,hI]
    refine vcP_raw (h1.mono ?_)
    rintro r H' ⟨rfl,rfl⟩
    repeat' first|refine sP ?_ ?_<;>intro hb<;>(try rw[hb])<;>(try simp only[bb]at hb)<;>(try simp only[within]at hb)<;>try simp only[go_sem,length_range,hst]|refine aI ?_|with_reducible refine dw sZ04g_f83 ?_|simp only[go_sem,length_range,hst]
    refine vc_fw (fun i=>⟨[(48,.int .i64 i),(47,.int .i64 a.hs.bs.length),(0,.int .i64 m),(1,.int .i64 (bs (usd p) 5:Nat)),(2,.lp 5 0),(5,.lp 6 0)],ownN a stop mg ((L1++adds a.hs.ms.length stop a.hs.bs.length f m p i).foldl (stN a) F) p (S i).1 (S i).2⟩) a.hs.bs.length (fun _=>True) (.base (by rw[S0,show adds a.hs.ms.length stop a.hs.bs.length f m p 0=[] by simp[adds],append_nil];exact w0)) trivial ?_
    intro i hi _
    rcases Nat.lt_or_ge i a.hs.bs.length with hlt2|hge
    ·have hlt2':(i:Int)<a.hs.bs.length:=by omega
     have hi5:i<5:=by omega
     have hU:bs (usd p) 5<32:=Nat.lt_of_lt_of_le (bs_lt (usd p) 5) (by decide)
     have hbit:=bs_bit (f:=usd p) hi5
     have a1:((bs (usd p) 5:Nat):Int) / 2^i=((bs (usd p) 5 / 2^i:Nat):Int):=by simp
     have a2:bs (usd p) 5 / 2^i≤bs (usd p) 5:=Nat.div_le_self _ _
     have a3:(I64 ((bs (usd p) 5 / 2^i:Nat):Int))=True:=eq_true (by generalize bs (usd p) 5 / 2^i=q at a2;unfold I64;omega)
     have a7:(0≤((bs (usd p) 5 / 2^i:Nat):Int))=True:=eq_true (Int.natCast_nonneg _)
     have a4:bs (usd p) 5 / 2^i &&& 1=bs (usd p) 5 / 2^i % 2:=Nat.and_one_is_mod _
     have a5:(I64 1)=True:=eq_true (by unfold I64;omega)
     have a6:(I64 ((i:Int)+1))=True:=eq_true (by unfold I64;omega)
     cases hu:usd p i with
     |true=>
      rw[hu,if_pos rfl]at hbit
      repeat' first|refine sP ?_ ?_<;>intro hb<;>(try rw[hb])<;>(try simp only[bb]at hb)<;>(try simp only[within]at hb)<;>try simp only[go_sem,hlt2',a1,a3,a4,a5,a6,a7,hbit]|refine aI ?_|with_reducible refine dw sZ04g_f83 ?_|simp only[go_sem,hlt2',a1,a3,a4,a5,a6,a7,hbit]
      exact .base (by rw[adds_yes hu,Sy i hu];exact w0)
     |false=>
      rw[hu,if_neg (by simp)]at hbit
      obtain⟨lm,hlm⟩:=get_of (l:=p) (j:=m) (by rw[hq.len];exact hlt)
      have hmp:m<p.length:=by rw[hq.len];exact hlt
      have hlmd:p.getD m []=lm:=by simp[hlm]
      have hlen5:lm.length≤5:=by have:=hq.short (mem_of_getElem? hlm);omega
      have hq':=hq.add (m:=m) (b:=i) hlt hlt2 hu
      have hn':=nodup_add (m:=m) (b:=i) hmp hn hu
      have b1:(1:Int)*2^i=((2^i:Nat):Int):=by simp
      have b2:bs (usd p) 5 ||| 2^i=bs (usd (addB p m i)) 5:=by rw[bit_or _ hU _ hi5 hbit,bs_add hu (usd_add hmp) 5 hi5]
      have b4:2^i≤16:=by
       have:i≤4:=by omega
       exact Nat.pow_le_pow_right (n:=2) (by omega) this
      have b5:(I64 ((2^i:Nat):Int))=True:=eq_true (by generalize 2^i=q at b4;unfold I64;omega)
      have b8:(0≤((2^i:Nat):Int))=True:=eq_true (Int.natCast_nonneg _)
      have b6:(I64 ((bs (usd p) 5:Nat):Int))=True:=eq_true (by unfold I64;omega)
      have hm3:(m:Int)<a.hs.ms.length:=by omega
      have hi1:=hstep i (fun z=>if z=m then []else(S i).1 z,fun z=>if z=m then(S i).2 m+1 else(S i).2 z) hlt2 hu
      have Sn1:=Sn i hu
      generalize hF2:(L1++adds a.hs.ms.length stop a.hs.bs.length f m p (i+1)).foldl (stN a) F=F2 at*
      generalize hF1:(L1++adds a.hs.ms.length stop a.hs.bs.length f m p i).foldl (stN a) F=F1 at*
      generalize hz:step i (fun z=>if z=m then []else(S i).1 z,fun z=>if z=m then(S i).2 m+1 else(S i).2 z)=z3 at*
      obtain⟨j3,g3⟩:=z3
      generalize hSi:S i=Si at*
      obtain⟨j2,g2⟩:=Si
      have hrm:=rng_get hlt
      have r1:((List.range a.hs.ms.length).map (rowE p g2)).set m [.rg (m+7) (lm.length+1) (g2 m+1)]=(List.range a.hs.ms.length).map (rowE (addB p m i) fun x=>if x=m then g2 m+1 else g2 x):=
       map_rng_set (by simp[addB,List.getElem?_set_self hmp,hlm]) fun x hx=>by simp[addB,getElem?_set_ne (Ne.symm hx),hx]
      have t1:List.take lm.length ((lm++j2 m).map encN)=lm.map encN:=by rw[map_append];exact List.take_left' (by simp)
      have r2:((List.range a.hs.ms.length).map (rgE p j2 g2)).set m (.rg 3 1 (lm.map encN++[[.int .i64 (i:Int)]]) (g2 m+1))=(List.range a.hs.ms.length).map (rgE (addB p m i) (fun x=>if x=m then []else j2 x) fun x=>if x=m then g2 m+1 else g2 x):=
       map_rng_set (by simp[addB,List.getElem?_set_self hmp,hlm,encN]) fun x hx=>by simp[addB,getElem?_set_ne (Ne.symm hx),hx]
      repeat' first|refine sP ?_ ?_<;>intro hb<;>(try rw[hb])<;>(try simp only[bb]at hb)<;>(try simp only[within]at hb)<;>try simp only[go_sem,hlt2',a1,a3,a4,a5,a6,a7,hbit,b1,b2,b5,b6,b8,hm3,hrm,hlm,r1,t1,r2,length_range]|refine aI ?_|with_reducible refine dw sZ04g_f83 ?_|simp only[go_sem,hlt2',a1,a3,a4,a5,a6,a7,hbit,b1,b2,b5,b6,b8,hm3,hrm,hlm,r1,t1,r2,length_range]
      refine⟨⟨by omega,by omega,by simp⟩,by omega,hlt,?_⟩
      repeat' first|refine sP ?_ ?_<;>intro hb<;>(try rw[hb])<;>(try simp only[bb]at hb)<;>(try simp only[within]at hb)<;>try simp only[go_sem,hlt2',a1,a3,a4,a5,a6,a7,hbit,b1,b2,b5,b6,b8,hm3,length_range]|refine aI ?_|with_reducible refine dw sZ04g_f83 ?_|simp only[go_sem,hlt2',a1,a3,a4,a5,a6,a7,hbit,b1,b2,b5,b6,b8,hm3,length_range]
      refine dCallC_here (append_nil _).symm hi1 ?_
      have hlm':(addB p m i)[m]? =some (lm++[(i:Int)]):=by simp[addB,List.getElem?_set_self hmp,hlm]
      have r3:((List.range a.hs.ms.length).map (rowE (addB p m i) g3)).set m [.rg (m+7) lm.length (g3 m)]=(List.range a.hs.ms.length).map (rowE p g3):=
       map_rng_set (by simp[hlm]) fun x hx=>by simp[addB,getElem?_set_ne (Ne.symm hx)]
      have r4:(List.range a.hs.ms.length).map (rgE (addB p m i) j3 g3)=(List.range a.hs.ms.length).map (rgE p (fun x=>if x=m then(i:Int)::j3 m else j3 x) g3):=by
       refine List.map_congr_left fun x _=>?_
       by_cases e:x=m
       ·subst e;simp[hlm',hlm]
       ·simp[addB,getElem?_set_ne (Ne.symm e),e]
      have t2:((lm.length+1:Nat):Int)-1=(lm.length:Int):=by omega
      repeat' first|refine sP ?_ ?_<;>intro hb<;>(try rw[hb])<;>(try simp only[bb]at hb)<;>(try simp only[within]at hb)<;>try simp only[go_sem,hlt2',a5,a6,b1,b5,b8,hm3,hrm,hlm',r3,r4,t2,length_range,length_append,length_cons,List.length_nil]|refine aI ?_|with_reducible refine dw sZ04g_f83 ?_|simp only[go_sem,hlt2',a5,a6,b1,b5,b8,hm3,hrm,hlm',r3,r4,t2,length_range,length_append,length_cons,List.length_nil]
      exact .base (by rw[Sn1];exact w0)
    ·have hge': ¬(i:Int)<a.hs.bs.length:=by omega
     have:i=a.hs.bs.length:=by omega
     subst this
     repeat' first|refine sP ?_ ?_<;>intro hb<;>(try rw[hb])<;>(try simp only[bb]at hb)<;>(try simp only[within]at hb)<;>try simp only[go_sem,hge']|refine aI ?_|with_reducible refine dw sZ04g_f83 ?_|simp only[go_sem,hge']
     exact⟨⟨[],_⟩,.base (wk_same trivial),rfl⟩
section
variable {P:Program} {nt m:Nat} {R:Exit→St→Prop} {st:St}
theorem post_cut{F:Fence}{E:Cx}{I:St→Prop}{y:Code}(h2: ∀s (a:Act) (w:World),I s→Fl.Good nt E s a w→post P F nt E R [.code y] .normal a w): ∀(pre:List Code) (e:Exit) (a:Act) (w:World),post P F nt E R (pre.map It.code++[.back I]) e a w→post P F nt E R [.code (pre.foldr Code.seq y)] e a w
 |[],e,a,w,h=>by
  cases e with
  |normal=>obtain⟨s,hs,hg⟩:=h;exact h2 s a w hs hg
  |_=>exact h
 |x::pre,e,a,w,h=>by
  have key: ∀e a w,e≠ .normal→post P F nt E R (pre.map It.code++[.back I]) e a w→post P F nt E R [] e a w:=fun e a w he hp=>by
   have:=post_cut h2 pre e a w hp
   cases e<;>first|exact this|exact absurd rfl he
  cases e with
  |normal=>
   refine wpIn_seq (wpIn_mono h fun e a w hp=>?_)
   cases e with
   |normal=>exact post_cut h2 pre .normal a w hp
   |_=>exact key _ a w (by simp) hp
  |_=>exact key _ a w (by simp) h
theorem rel_codes{I:St→Prop}: ∀(pre:List Code),Rel (pre.map Iv.code++[.back I]) (pre.map It.code++[.back I])
 |[]=>⟨_,rfl,rfl⟩
 |_::pre=>⟨_,rfl,rel_codes pre⟩
theorem CV.cutN{α:Type}(pre:List Code){y:Code}(S2:α→St)(X:α→Prop)(h1:CV P nt m R (pre.map Iv.code++[.back fun s=> ∃z,Wn m s (S2 z)∧X z]) st)(h2: ∀z,X z→CV P nt m R [.code y] (S2 z)):CV P nt m R [.code (pre.foldr Code.seq y)] st:=by
 refine CV.mk fun k' hr=>?_
 obtain⟨r,rfl,hr'⟩:=hr
 have hr':r=[]:=hr'
 subst hr'
 intro F E a w hF hE hg
 have h:=h1.of _ (rel_codes pre) F E a w hF hE hg
 exact post_cut (fun s a w ⟨z,hs,hx⟩ hgs=>(h2 z hx).of _ ⟨_,rfl,rfl⟩ F E a w hF hE (hs.good hE hgs)) pre .normal a w h
theorem CV.cut6{α:Type}{x0 x1 x2 x3 x4 x5 y:Code}(S2:α→St)(X:α→Prop)(h1:CV P nt m R [.code x0,.code x1,.code x2,.code x3,.code x4,.code x5,.back fun s=> ∃z,Wn m s (S2 z)∧X z] st)(h2: ∀z,X z→CV P nt m R [.code y] (S2 z)):CV P nt m R [.code (x0.seq (x1.seq (x2.seq (x3.seq (x4.seq (x5.seq y))))))] st:=
 CV.cutN [x0,x1,x2,x3,x4,x5] S2 X h1 h2
end
def plansG(h:House)(stop:Int):List (List (List Int)):=plansF h.ms.length stop h.bs.length (h.ms.length+h.bs.length+1) 0 (List.replicate h.ms.length [])
theorem usd_nil(k i:Nat):usd (List.replicate k []) i=false:=by
 rw[←Bool.not_eq_true,usd_iff]
 rintro⟨l,h1,h2⟩
 rw[List.eq_of_mem_replicate h1]at h2;simp at h2
theorem okQ_nil(k nb:Nat):okQ k nb (List.replicate k []):=by
 refine⟨by simp,fun l hl b hb=>?_,?_⟩
 ·rw[List.eq_of_mem_replicate hl]at hb;simp at hb
 ·have h1: ∀k,lens (List.replicate k [])=0:=by
   intro k
   induction k with
   |zero=>rfl
   |succ k ih=>simp[List.replicate_succ,lens,ih]
  have h2: ∀n,cnt (usd (List.replicate k [])) n=n:=by
   intro n
   induction n with
   |zero=>rfl
   |succ n ih=>rw[cnt,ih,usd_nil];simp
  rw[h1,h2];omega
theorem nodup_nil(k:Nat):(List.replicate k ([]:List Int)).flatten.Nodup:=by
 have:(List.replicate k ([]:List Int)).flatten=[]:=by simp
 rw[this];exact List.nodup_nil
theorem bs_nil(k:Nat):bs (usd (List.replicate k [])) 5=0:=by
 simp[bs,usd_nil]
theorem rep_getD(k m:Nat):(List.replicate k ([]:List Int)).getD m []=[]:=by
 rw[List.getD_eq_getElem?_getD,List.getElem?_replicate];split<;>rfl
theorem plansG_ok{h:House}{stop:Int}{q:List (List Int)}(hq:q∈plansG h stop):okQ h.ms.length h.bs.length q∧q.flatten.Nodup:=
 plansF_ok _ _ _ (okQ_nil _ _) (nodup_nil _) (Nat.zero_le _) q hq
theorem plansG_len{h:House}{stop:Int}(hk:okG h)(h3:h.bs.length≤3):(plansG h stop).length≤16384:=by
 have h1:=plansF_len (k:=h.ms.length) (nb:=h.bs.length) (stop:=stop) (h.ms.length+h.bs.length+1) 0 (List.replicate h.ms.length [])
 have hm:=hk.2.1
 have h2:(h.bs.length+1)^(h.ms.length+h.bs.length+1)≤4^7:=Nat.le_trans (Nat.pow_le_pow_left (by omega) _) (Nat.pow_le_pow_right (by omega) (by omega))
 exact Nat.le_trans h1 h2
def foundN(a:Hall)(stop:Int):List (List Int×Int):=(plansG a.hs stop).foldl (stN a) []
theorem foundN_ok{a:Hall}(ha:okH a)(stop:Int):okF (foundN a stop) (plansG a.hs stop).length:=by
 have:=okF.fold (a:=a) (L:=plansG a.hs stop) (F:=[]) (c:=0) (fun e he=>by cases he) fun q hq=>by
  have:=(plansG_ok hq).1.len;have:=ha.1.2.1;omega
 rw[Nat.zero_add]at this
 exact this
def encK(s:List Int):List AV:=s.map I
theorem pureK(l:List (List Int)):pureE (l.map encK)=True:=pureE_map fun s=>pureL_mapI s
attribute [go_sem] pureK
abbrev lK(l:List (List Int)):AV:= .lst false 12 (l.map encK)
def allL{α:Type}(l:List α):Nat→List (List α)
 |0=>[[]]
 |n+1=>[]::l.flatMap fun x=>(allL l n).map fun r=>x::r
theorem mem_allL{α:Type}{l:List α}: ∀{n:Nat} {xs:List α},xs∈allL l n↔xs.length≤n∧ ∀x,x∈xs→x∈l
 |0,[]=>by simp[allL]
 |0,x::xs=>by simp[allL]
 |n+1,[]=>by simp[allL]
 |n+1,x::xs=>by
  have ih:=mem_allL (l:=l) (n:=n) (xs:=xs)
  simp only[allL,List.mem_cons,List.mem_flatMap,List.mem_map,length_cons,reduceCtorEq,false_or]
  constructor
  ·rintro⟨y,h1,r,h2,h3⟩
   cases h3
   obtain⟨h4,h5⟩:=ih.1 h2
   exact⟨by omega,fun z hz=>by rcases hz with rfl|hz;exact h1;exact h5 z hz⟩
  ·rintro⟨h1,h2⟩
   exact⟨x,h2 x (.inl rfl),xs,ih.2 ⟨by omega,fun z hz=>h2 z (.inr hz)⟩,rfl⟩
def keysF(F:List (List Int×Int)):List (List Int):=F.map fun e=>e.1
def isMin(K:List (List Int))(s:List Int):Prop:= ∀t,t∈K→s=t∨ ¬misS s t=zer12
def goodN(K:List (List Int))(out:List (List Int)):Prop:= ∀s,s∈out↔s∈K∧isMin K s
noncomputable def altN(a:Hall)(stop:Int):List (List (List Int)):=(allL (keysF (foundN a stop)) (foundN a stop).length).filter fun out=>decide (goodN (keysF (foundN a stop)) out)
theorem mem_altN{a:Hall}{stop:Int}{out:List (List Int)}:out∈altN a stop↔(out.length≤(foundN a stop).length∧ ∀s,s∈out→s∈keysF (foundN a stop))∧goodN (keysF (foundN a stop)) out:=by
 unfold altN;rw[List.mem_filter,mem_allL,decide_eq_true_eq]
theorem nodup_lt: ∀{n:Nat} {l:List Nat},l.Nodup→(∀x,x∈l→x<n)→l.length≤n
 |0,[],_,_=>by simp
 |0,x::_,_,h=>absurd (h x (by simp)) (by omega)
 |n+1,l,hn,h=>by
  by_cases hm:n∈l
  ·have h1:=nodup_lt (n:=n) (l:=l.erase n) (hn.erase n) fun x hx=>by
    have h2:=h x (List.mem_of_mem_erase hx)
    have h3:x≠n:=fun e=>by subst e;exact(List.Nodup.not_mem_erase hn) hx
    omega
   rw[List.length_erase_of_mem hm]at h1;omega
  ·have:=nodup_lt (n:=n) (l:=l) hn fun x hx=>by
    have h2:=h x hx
    have h3:x≠n:=fun e=>by subst e;exact hm hx
    omega
   omega
end Go.Proofs.YtoadkchhimojlaaGreatDoor
