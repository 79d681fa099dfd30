import Derived.Deep.Upon
import Derived.Test.YtoapihepdallbaaGreatDoorP01
namespace Go.Proofs.YtoapihepdallbaaGreatDoor
open Go.RowKit
def look{β:Type}(l:List (Int×β))(k:Int):Option β:=if has l k=true then(l[pos l k]?).map (·.2) else none
theorem Gd{β:Type}{l:List (Int×β)}{j:Nat}{x:Int×β}(h:l[j]? =some x):has l x.1=true:=by
 unfold has
 rw[List.any_eq_true]
 exact⟨x,List.mem_of_getElem? h,by simp⟩
theorem Qy{β:Type}{l:List (Int×β)}{k:Int}:has l k=true↔∃x∈l,x.1=k:=by
 unfold has
 rw[List.any_eq_true]
 constructor
 ·rintro⟨x,hx,hk⟩;exact⟨x,hx,by simpa using hk⟩
 ·rintro⟨x,hx,hk⟩;exact⟨x,hx,by simpa using hk⟩
theorem Qd.Gb{β:Type}{l:List (Int×β)}(hr:Qd l){x y:Int×β}(hx:x∈l)(hy:y∈l)(h:x.1=y.1):x=y:=by
 obtain⟨i,hi⟩:=List.mem_iff_getElem?.1 hx
 obtain⟨j,hj⟩:=List.mem_iff_getElem?.1 hy
 rcases Nat.lt_trichotomy i j with h1|h1|h1
 ·have:=hr.lt h1 hi hj;omega
 ·subst h1;rw[hi]at hj;injection hj
 ·have:=hr.lt h1 hj hi;omega
theorem Q2f{β:Type}{l:List (Int×β)}(hr:Qd l){x:Int×β}(h:x∈l):look l x.1=some x.2:=by
 have hh:has l x.1=true:=Qy.2 ⟨x,h,rfl⟩
 obtain⟨y,hy,hk⟩:=(Zq hr x.1).1 hh
 unfold look
 rw[if_pos hh,hy]
 have:y=x:=hr.Gb (List.mem_of_getElem? hy) h hk
 subst this
 rfl
theorem Y5f{β:Type}(l:List (Int×β))(x:Int×β):has (add l x) x.1=true:=by
 unfold add
 split
 ·assumption
 ·exact Qy.2 ⟨x,Q0h.2 (.inl rfl),rfl⟩
theorem Q7n{β:Type}{l:List (Int×β)}{x:Int×β}(h:has l x.1=true):add l x=l:=by unfold add;rw[if_pos h]
theorem X7p{β:Type}{l:List (Int×β)}{x y:Int×β}(h:y∈add l x):y=x\/y∈l:=by
 unfold add at h
 split at h
 ·exact .inr h
 ·exact Q0h.1 h
theorem drop'_head{β:Type}{x:Int×β}{r:List (Int×β)}(hr:Qd (x::r)):X4 (x::r) x.1=r:=by
 have hh:has (x::r) x.1=true:=Gd (j:=0) rfl
 have hp:pos (x::r) x.1=0:=by
  have:=(J0 hr x.1 (t:=0) (x:=x) rfl)
  omega
 unfold X4 cut
 rw[if_pos hh,hp]
 simp
theorem drop'_yes{β:Type}{l:List (Int×β)}{k:Int}(h:has l k=true):X4 l k=l.take (pos l k)++l.drop (pos l k+1):=by unfold X4 cut;rw[if_pos h]
theorem drop'_no{β:Type}{l:List (Int×β)}{k:Int}(h:has l k=false):X4 l k=l:=by unfold X4;rw[if_neg (by rw[h];exact Bool.false_ne_true)]
section
set_option maxHeartbeats 1000000
set_option maxRecDepth 4000
structure Y1j where
 lp:Value
 vt:Value
 m:Int
 ins:Bool
variable{Rd:Y1j}
theorem Q1b{w:World}{b:Nat}{a v u x y:Value}{t:TypeId}(h:w.heap[b]? =some (.cells #[a,v,u,x,y] t (0,0))):w.cell? ⟨b,3,none⟩=some x:=by simp[World.cell?,h]
structure X8b(Rd:Y1j)(w:World)(tb:Nat)(row:Option Nat)(l:List (Int×Int)):Prop where
 val:∃v:Value,v.ownBlock=row/\w.heap[tb]? =some (.cells #[Rd.lp,Rd.vt,.int .i64 Rd.m,v,.bool Rd.ins] 117 (0,0))/\Own Qj 2 60 0 w v l
 apart:row≠some tb
 rising:Qd l
theorem Dq(w:World)(tb:Nat)(row:Option Nat)(l:List (Int×Int))(p:Int)(h:X8b Rd w tb row l)(hlen:l.length<=1000000):
  Calls Tryz.prog 153 #[.pointer (some ⟨tb,3,none⟩),.int .i64 p] w fun e w'=>e=.returned (.tuple #[.int .i64 (pos l p),.bool (has l p)])/\Below w.heap.size w w':=by
 obtain⟨⟨v,hv,hb,hown⟩,hap,hr⟩:=h
 have hc:w.cell? ⟨tb,3,none⟩=some v:=by simp[World.cell?,hb]
 have HO:=Q0 hown
 have HR:=Q0 hr
 clear hown hr hb hv hap
 go_enter Tryz.func153,Tryz.ntmps153
 go_wp2_with (go_at_call 170;refine(Q2t _ 0 _ l _ HO.o HR.o hlen).mono ?_;rintro e w' ⟨rfl,hb⟩)
 go_ret2
 exact⟨rfl,hb⟩
def Cn(Rd:Y1j)(tb:Nat)(row:Option Nat)(l:List (Int×Int))(w w':World):Prop:=
 ∃row',X8b Rd w' tb row' l/\Kp (fun q=>q=tb\/some q=row) w w'/\(row'=row\/∃q,row'=some q/\w.heap.size<=q)
theorem Cn.same{tb:Nat}{row:Option Nat}{l:List (Int×Int)}{w w':World}(h:X8b Rd w tb row l)(hb:Below w.heap.size w w'):Cn Rd tb row l w w':=by
 obtain⟨⟨v,hv,hc,hown⟩,hap,hr⟩:=h
 refine⟨row,⟨⟨v,hv,?_,hown.below hb⟩,hap,hr⟩,Kp.Qi hb _,.inl rfl⟩
 rw[hb.block tb (Q6 hc)];exact hc
theorem Cn.stored{tb:Nat}{row:Option Nat}{l:List (Int×Int)}{w w2:World}{v u:Value}(hc:w2.heap[tb]? =some (.cells #[Rd.lp,Rd.vt,.int .i64 Rd.m,u,.bool Rd.ins] 117 (0,0)))(hown:Own Qj 2 60 0 w2 v l)(hr:Qd l)
  (hlt:tb<w.heap.size) (hap:row≠some tb) (hk:Kp (fun q=>q=tb\/some q=row) w w2) (hat:v.ownBlock=row\/∃q,v.ownBlock=some q/\w.heap.size<=q):Cn Rd tb row l w (w2.setCell ⟨tb,3,none⟩ v):=by
 have hne:v.ownBlock≠some tb:=by
  rcases hat with h|⟨q,h,hq⟩
  ·rw[h];exact hap
  ·rw[h];intro he;injection he with he;omega
 refine⟨v.ownBlock,⟨⟨v,rfl,?_,hown.kp (Kp.setCell w2 _ v) (fun q hq he=>hne (by rw[hq,he]))⟩,hne,hr⟩,?_,hat⟩
 ·rw[Qn hc 3 v];rfl
 ·exact hk.trans (Kp.setCell w2 ⟨tb,3,none⟩ v) (fun q hq=> .inl (.inl hq))
theorem Q9b(w:World)(tb:Nat)(row:Option Nat)(l:List (Int×Int))(p f:Int)(h:X8b Rd w tb row l)(hlen:l.length<=1000000):
  Calls Tryz.prog 122 #[.pointer (some ⟨tb,3,none⟩),.int .i64 p,.int .i64 f] w fun e w'=>e=.returned (.tuple #[])/\Cn Rd tb row (add l (p,f)) w w':=by
 by_cases hh:has l p=true
 ·have HT:=Q0 h
  have HA:Sc (add l (p,f)=l):=⟨by unfold add;rw[if_pos hh]⟩
  clear h
  go_enter Tryz.func122,Tryz.ntmps122
  go_wp2_with (go_at_call 153;refine(Dq _ tb row l _ HT.o hlen).mono ?_;rintro e w' ⟨rfl,hb⟩)
  go_end0
  exact⟨rfl,by rw[HA.o];exact Cn.same HT.o hb⟩
 ·have hh:has l p=false:=by simpa using hh
  have HT:=Q0 h
  obtain⟨⟨v,hv,hc,hown⟩,hap,hr⟩:=h
  have HO:=Q0 hown
  have HV:=Q0 hv
  have HC:=Q0 hc
  have HR:=Q0 hr
  have HP:=Q0 hap
  have HL:Sc (add l (p,f)=l.take (pos l p)++(p,f)::l.drop (pos l p)):=⟨by unfold add put;rw[if_neg (by simpa using hh)]⟩
  clear hown hv hc hr hap
  go_enter Tryz.func122,Tryz.ntmps122
  go_wp2_with (first|(go_at_call 153;refine(Dq _ tb row l _ HT.o hlen).mono ?_;rintro e w1 ⟨rfl,hb⟩;have hc1:=Q1b ((hb.block tb (Q6 HC.o)).trans HC.o);have HB1:=Q0 hb;clear hb)|(go_at_call 154;go_loud (refine(Q2r _ 0 _ l (pos l p) (p,f) ((HO.o.below HB1.o).alloc _) hlen (Q4x l p) _ (heap_alloc_new _ _) ?c1 (Nat.zero_le _)).mono ?_)))
  case c1=>exact fun he=>by have:=(HO.o.lt _ he).2;have:=HB1.o.size;omega
  rintro e w2 ⟨v',rfl,ho,hg,hat⟩
  obtain⟨A',n',c',rfl⟩:=ho.slice3
  have hk2:Kp (fun q=>some q=row) w w2:=(Kp.Qi HB1.o _).trans ((Kp.alloc _ _ (fun q=>some q=row)).trans (Kp.Zl hg) (fun q hq=> .inl (by rw[<-HV.o];exact hq))) (fun q hq=> .inl hq)
  have hc2:w2.heap[tb]? =some (.cells #[Rd.lp,Rd.vt,.int .i64 Rd.m,v,.bool Rd.ins] 117 (0,0)):=hk2.at HC.o (fun he=>HP.o he.symm)
  have hcell2:=Q1b hc2
  have hfz2:=Q2 hc2 3
  have hfin:Sc (Cn Rd tb row (add l (p,f)) w (w2.setCell ⟨tb,3,none⟩ (.slice A' n' c'))):=⟨by
   rw[HL.o]
   refine Cn.stored hc2 ho (by rw[<-HL.o];exact C3 HR.o _) (Q6 HC.o) HP.o (hk2.mono (fun q hq=> .inr hq)) ?_
   rcases hat with hat|hat
   ·exact .inl (hat.trans HV.o)
   ·exact .inr ⟨_,hat,by have:=HB1.o.size;simp;omega⟩⟩
  clear hk2 hc2 hg hat ho
  go_wp2
  go_end0
  exact⟨rfl,hfin.o⟩
theorem Q9c(w:World)(tb:Nat)(row:Option Nat)(l:List (Int×Int))(h:X8b Rd w tb row l)(hlen:l.length<=1000000):
  Calls Tryz.prog 34 #[.pointer (some ⟨tb,3,none⟩)] w (Q8s l w):=by
 obtain⟨⟨v,hv,hc,hown⟩,hap,hr⟩:=h
 have hc1:=Q1b hc
 have HO:=Q0 hown
 clear hown hr hc hv hap
 go_enter Tryz.func34,Tryz.ntmps34
 go_wp2_with (go_at_call 78;refine(Q3z _ 0 _ l HO.o hlen).mono ?_;rintro e w' ⟨v',rfl,ho,hb⟩)
 go_ret
 exact⟨_,rfl,ho,hb⟩
end
section
section
variable{α:Type}{enc:α->List Value}{sz:Nat}{e:TypeId}{base:Nat}{w w':World}
theorem Own.take{g n cap:Nat}{l:List α}(K:Kind enc sz)(h:Own enc sz e base w (.slice (some ⟨g,0,none⟩) n cap) l){k:Nat}(hk:k<=n):
  Own enc sz e base w (.slice (some ⟨g,0,none⟩) k cap) (l.take k):=by
 obtain⟨cur,hh,hb,hl,hn,hc,hs,ht⟩:=h.block
 refine Own.Jc hh hb K (by rw[List.length_take];omega) (by omega) hc hs ?_
 rw[<-K.Ub,<-ht,List.take_take,Nat.min_eq_left (Nat.mul_le_mul_right _ hk)]
theorem Own.tail{g n cap:Nat}{l:List α}(K:Kind enc sz)(h:Own enc sz e base w (.slice (some ⟨g,0,none⟩) n cap) l)(k:Nat):
  ∀j u,(flat enc (l.drop k))[j]? =some u->w.cell? ((⟨g,k*sz,none⟩:Addr).add j)=some u:=by
 intro j u hu
 rw[<-K.Gc,List.getElem?_drop]at hu
 have:=h.cells (g:=g) rfl (k*sz+j) u hu
 have ha:(⟨g,0,none⟩:Addr).add (k*sz+j)=(⟨g,k*sz,none⟩:Addr).add j:=by
  cases j<;>unfold Addr.add<;>split<;>simp_all
 rwa [ha]at this
theorem Own.len{A:Option Addr}{n c:Nat}{l:List α}(h:Own enc sz e base w (.slice A n c) l):n=l.length:=by
 obtain⟨A',c',he,_,_⟩:=h.slice
 injection he
theorem Own.rows{v:Value}{l:List α}{n:Nat}(h:Own enc sz e base w v l)(hn:l.length=n):w.ownsRow base e sz v n (flat enc l):=by
 subst hn;exact h
theorem Own.Qv{v:Value}{l:List α}{n:Nat}{cs:List Value}(h:w.ownsRow base e sz v n cs)(hn:l.length=n)(hc:cs=flat enc l):Own enc sz e base w v l:=by
 subst hn hc;exact h
end
theorem Xo{w w':World}{g o:Nat}{cs:List Value}(hb:Below w.heap.size w w')(h:∀j u,cs[j]? =some u->w.cell? ((⟨g,o,none⟩:Addr).add j)=some u):∀j u,cs[j]? =some u->w'.cell? ((⟨g,o,none⟩:Addr).add j)=some u:=fun j u hj=>by
 have h1:=h j u hj
 have hlt:=World.block_lt_of_cell? w _ h1
 have h2:=hb.block _ hlt
 unfold World.cell? at h1 ⊢
 rw[h2];exact h1
theorem Gw{P:Program}(w:World)(t ty e:TypeId)(i:TypeInfo)(ht:P.underlying t=some (.slice e))(hi:P.info? e=some i)(base:Option Addr)(n c:Nat)(h:n<=c):
  (Builtin.append_ #[t,t] ty #[.slice base n c,.slice none 0 0]).run P w=.ok (.slice base n c) w:=by
 cases base<;>simp[Builtin.append_,run_underlying ht,sizeOf,typeInfo,hi,Builtin.lenOf,Builtin.firstCells,h,storeCells]
end
section
structure Dy where
 lp:Value
 vt:Value
 m:Int
variable{Rd:Dy}
structure Ec(Rd:Dy)(w:World)(tb:Nat)(row:Option Nat)(l:List (Int×Int)):Prop where
 val:∃v:Value,v.ownBlock=row/\w.heap[tb]? =some (.cells #[Rd.lp,Rd.vt,.int .i64 Rd.m,v] 125 (0,0))/\Own Qj 2 60 0 w v l
 apart:row≠some tb
 rising:Qd l
theorem Ec.kp{w w':World}{tb:Nat}{row:Option Nat}{l:List (Int×Int)}{S:Nat->Prop}(h:Ec Rd w tb row l)(k:Kp S w w')(h1:¬S tb)(h2:∀q,row=some q->¬S q):Ec Rd w' tb row l:=by
 obtain⟨⟨v,hv,hc,hown⟩,hap,hr⟩:=h
 exact⟨⟨v,hv,k.at hc h1,hown.kp k (fun q hq=>h2 q (by rw[<-hv];exact hq))⟩,hap,hr⟩
theorem Ec.bel{w w':World}{tb:Nat}{row:Option Nat}{l:List (Int×Int)}(h:Ec Rd w tb row l)(hb:Below w.heap.size w w'):Ec Rd w' tb row l:=h.kp (Kp.Qi hb (fun _=>False)) id (fun _ _=>id)
def Dw(Rd:Dy)(tb:Nat)(row:Option Nat)(l:List (Int×Int))(w w':World):Prop:=
 ∃row',Ec Rd w' tb row' l/\Kp (fun q=>q=tb\/some q=row) w w'/\(row'=row\/∀q,row'=some q->w.heap.size<=q)
theorem Dw.same{tb:Nat}{row:Option Nat}{l:List (Int×Int)}{w w':World}(h:Ec Rd w tb row l)(hb:Below w.heap.size w w'):Dw Rd tb row l w w':=⟨row,h.bel hb,Kp.Qi hb _,.inl rfl⟩
theorem Dw.stored{tb:Nat}{row:Option Nat}{l:List (Int×Int)}{w w2:World}{v u:Value}(hc:w2.heap[tb]? =some (.cells #[Rd.lp,Rd.vt,.int .i64 Rd.m,u] 125 (0,0)))(hown:Own Qj 2 60 0 w2 v l)(hr:Qd l)
  (hlt:tb<w.heap.size) (hk:Kp (fun q=>q=tb\/some q=row) w w2) (hat:∀q,v.ownBlock=some q->w.heap.size<=q):Dw Rd tb row l w (w2.setCell ⟨tb,3,none⟩ v):=by
 have hne:v.ownBlock≠some tb:=by
  intro he
  have:=hat _ he;omega
 refine⟨v.ownBlock,⟨⟨v,rfl,?_,hown.kp (Kp.setCell w2 _ v) (fun q hq he=>hne (by rw[hq,he]))⟩,hne,hr⟩,?_,.inr hat⟩
 ·rw[Qn hc 3 v];rfl
 ·exact hk.trans (Kp.setCell w2 ⟨tb,3,none⟩ v) (fun q hq=> .inl (.inl hq))
theorem X9u{β:Type}{l:List (Int×β)}(hr:Qd l){i:Nat}{x:Int×β}(h:l[i]? =some x):pos l x.1=i:=by
 obtain⟨y,hy,hk⟩:=(Zq hr x.1).1 (Gd h)
 rcases Nat.lt_trichotomy (pos l x.1) i with h1|h1|h1
 ·have:=hr.lt h1 hy h;omega
 ·exact h1
 ·have:=hr.lt h1 h hy;omega
end
theorem Q0b:(Tryz.prog.info? 58).map (fun i=>(i.zero,i.size,i.bytes))=some (some (.agg #[.int .i64 0,.int .i64 0,.int .i64 0,.int .i64 0]),4,32):=by kernel_rfl
def Q8u(l:List (Int×Int×Int×Int))(w:World)(e:Ending)(w':World):Prop:=
 ∃v',e=.returned v'/\Own Qg 4 58 w.heap.size w' v' l/\Below w.heap.size w w'
set_option maxHeartbeats 1000000 in
theorem X0q(w:World)(base:Nat)(v:Value)(l:List (Int×Int×Int×Int))(hown:Own Qg 4 58 base w v l)(hlen:l.length<=1000000):
  Calls Tryz.prog 77 #[v] w (Q8u l w):=by
 obtain⟨i0,hi,hz0,hz1,hz2⟩:=info_parts Q0b
 rcases hown.2 with ⟨rfl,h0⟩|⟨g,cap,cur,rfl,hb,hg,hn,hc,hs,ht⟩
 ·obtain rfl:l=[]:=List.eq_nil_of_length_eq_zero h0
  clear hown
  have he:=fun(W:World)=>Lib.run_eql_slice_nil (P:= Tryz.prog) W 31 58 none 0 0 0 0 Tryz.underlying31
  go_enter Tryz.func77,Tryz.ntmps77
  go_wp2
  go_ret
  exact⟨_,rfl,Own.nil,Below.refl _ _⟩
 ·have hn0:l.length<=maxLen:=by unfold maxLen;omega
  have he:=fun(W:World)=>Lib.run_eql_slice_nil (P:= Tryz.prog) W 31 58 (some ⟨g,0,none⟩) l.length cap 0 0 Tryz.underlying31
  have HE:Sc ((w.alloc (.cells #[] 58)).ownsRow w.heap.size 58 4 (.slice (some ⟨w.heap.size,0,none⟩) 0 0) 0 []):=⟨World.ownsRow_made w #[] 0 (Nat.le_refl _) (by unfold maxLen;omega) rfl⟩
  have HN:Sc (∀j u,(flat Qg l)[j]? =some u->(w.alloc (.cells #[] 58)).cell? ((⟨g,0,none⟩:Addr).add j)=some u):=⟨by
   have h:=(World.ownsRow.alloc hown (.cells #[] 58)).cells (g:=g) rfl
   exact h⟩
  clear hown hg ht hs
  go_enter Tryz.func77,Tryz.ntmps77
  go_wp2_with (at_builtin;go_loud (refine wpList_append_own_at _ rfl (.tmp 5) (.tmp 6) 31 rfl w.heap.size 58 i0 (.agg #[.int .i64 0,.int .i64 0,.int .i64 0,.int .i64 0]) 4 32 Tryz.underlying31 hi hz0 hz1 hz2 rfl (by decide) _ 0 [] rfl HE.o ⟨g,0,none⟩ l.length cap (flat Qg l) rfl (X8.Qp l) HN.o (X8.Xk l) ?c3 ?c4 ?c5 ?_))
  case c3=>rw[Nat.zero_add];exact hn0
  case c4=>omega
  case c5=>simp
  intro v' w' h1 h2 h3 h4
  have H1:Sc (Own Qg 4 58 w.heap.size w' v' l):=⟨h1⟩
  have H2:Sc (Below w.heap.size w w'):=⟨((Below.refl _ _).alloc (Nat.le_refl _) _).grown h2 (by simp) (fun k hk=>by simp[Value.ownBlock]at hk;omega)⟩
  clear h1 h2 h3 h4
  go_wp2
  go_ret
  exact⟨_,rfl,H1.o,H2.o⟩
section
set_option maxHeartbeats 2000000
theorem Q0u(x y:Int×Int×Int×Int)(w:World):
  Calls Tryz.prog 43 #[.agg #[.int .i64 x.1,.int .i64 x.2.1,.int .i64 x.2.2.1,.int .i64 x.2.2.2],.agg #[.int .i64 y.1,.int .i64 y.2.1,.int .i64 y.2.2.1,.int .i64 y.2.2.2]] w fun e w'=>e=.returned (.bool (decide (x=y)))/\Below w.heap.size w w':=by
 by_cases h:x=y
 ·subst h
  go_enter Tryz.func43,Tryz.ntmps43
  go_wp2
  go_ret
  exact⟨by simp,((Below.refl _ _).alloc (Nat.le_refl _) _).alloc (by simp) _⟩
 ·have HH:=Q0 h
  obtain⟨a1,a2,a3,a4⟩:=x
  obtain⟨b1,b2,b3,b4⟩:=y
  clear h
  by_cases h1:a1=b1
  ·subst h1
   by_cases h2:a2=b2
   ·subst h2
    by_cases h3:a3=b3
    ·subst h3
     have h4:(a4==b4)=false:=beq_eq_false_iff_ne.2 (fun h=>HH.o (by rw[h]))
     go_enter Tryz.func43,Tryz.ntmps43
     go_wp2
     go_ret
     exact⟨by rw[decide_eq_false HH.o];rfl,((Below.refl _ _).alloc (Nat.le_refl _) _).alloc (by simp) _⟩
    ·have h4:(a3==b3)=false:=beq_eq_false_iff_ne.2 h3
     clear h3
     go_enter Tryz.func43,Tryz.ntmps43
     go_wp2
     go_ret
     exact⟨by rw[decide_eq_false HH.o];rfl,((Below.refl _ _).alloc (Nat.le_refl _) _).alloc (by simp) _⟩
   ·have h4:(a2==b2)=false:=beq_eq_false_iff_ne.2 h2
    clear h2
    go_enter Tryz.func43,Tryz.ntmps43
    go_wp2
    go_ret
    exact⟨by rw[decide_eq_false HH.o];rfl,((Below.refl _ _).alloc (Nat.le_refl _) _).alloc (by simp) _⟩
  ·have h4:(a1==b1)=false:=beq_eq_false_iff_ne.2 h1
   clear h1
   go_enter Tryz.func43,Tryz.ntmps43
   go_wp2
   go_ret
   exact⟨by rw[decide_eq_false HH.o];rfl,((Below.refl _ _).alloc (Nat.le_refl _) _).alloc (by simp) _⟩
theorem Vp(w:World)(base:Nat)(v:Value)(l:List (Int×Int×Int×Int))(hown:Own Qg 4 58 base w v l)(hlen:l.length<=1000000):
  Calls Tryz.prog 126 #[v] w (Q8u l w):=by
 obtain⟨i0,hi,hz0,hz1,hz2⟩:=info_parts Q0b
 obtain⟨A,cap,rfl,hnc,hcm⟩:=hown.slice
 obtain⟨n,hn⟩:∃n,l.length=n:=⟨_,rfl⟩
 rw[hn]at hown hlen hnc ⊢
 have HN:=Q0 hn
 have HO:=Q0 hown
 clear hown hn
 go_enter Tryz.func126,Tryz.ntmps126
 go_wp2_with (at_make;refine wpList_make_own _ rfl _ _ 31 rfl w.heap.size 58 i0 (.agg #[.int .i64 0,.int .i64 0,.int .i64 0,.int .i64 0]) 4 Tryz.underlying31 hi hz0 hz1 .i64 .i64 _ n rfl rfl rfl ?b1 ?b2 (Nat.le_refl _) ?_)
 case b1=>rw[hz2];omega
 case b2=>unfold maxLen;omega
 intro w1 hown1 hg1
 have HO1:Sc (Own Qg 4 58 w.heap.size w1 (.slice (some ⟨w.heap.size,0,none⟩) 0 n) ([]:List (Int×Int×Int×Int))):=⟨hown1⟩
 have HB1:Sc (Below w.heap.size w w1):=⟨Gq hg1⟩
 clear hown1 hg1
 go_wp2
 go_loopg [3,4] n (fun kx s3 s4 wr=>∃i:Nat,s4=.int .i64 i/\i<=n/\n - i<=kx/\Sc (Below w.heap.size w wr)/\Sc (Own Qg 4 58 w.heap.size wr s3 (l.take i)))
 case atStart=>exact⟨0,rfl,by omega,by omega,HB1,⟨by rw[List.take_zero];exact HO1.o⟩⟩
 case round=>
  obtain⟨i,rfl,hin,hg,HB,HR⟩:=hrel
  by_cases hlt:i<n
  ·obtain⟨x,hx⟩:∃x,l[i]? =some x:=⟨_,List.getElem?_eq_getElem (by rw[HN.o];exact hlt)⟩
   obtain⟨g,c2,he,_,_,_,_⟩:=HO.o.form (by rw[HN.o];omega)
   injection he with hA hn2 hC
   subst hA
   have HO2:=HO.o.below HB.o
   obtain⟨c0,c1,c2,c3⟩:=HO2.V6 hx
   have hnext:l.take (i+1)=l.take i++[x]:=by rw[List.take_add_one,hx];rfl
   have HX:=Q0 hnext
   have HT:Sc ((l.take i).length=i):=⟨by rw[List.length_take,HN.o];omega⟩
   have hil:(i:Int)<n:=by omega
   clear hx HO2 hnext hn2 hC
   go_wp2_with (at_builtin;go_loud (refine wpList_append_own_at _ rfl (.tmp 14) (.tmp 19) 31 rfl w.heap.size 58 i0 (.agg #[.int .i64 0,.int .i64 0,.int .i64 0,.int .i64 0]) 4 32 Tryz.underlying31 hi hz0 hz1 hz2 rfl (by decide) _ (l.take i).length (flat Qg (l.take i)) rfl (HR.o.alloc _) _ 1 1 (Qg x) rfl rfl ?c1 ?c2 ?c3 ?c4 ?c5 ?_))
   case c1=>exact World.news_of_block (heap_alloc_new _ _)
   case c2=>exact X8.one x
   case c3=>rw[HT.o];unfold maxLen;omega
   case c4=>rw[HT.o];omega
   case c5=>have:=HB.o.size;simp;omega
   intro v1 w2 h1 h2 h3 h4
   have H1:Sc (Own Qg 4 58 w.heap.size w2 v1 (l.take (i+1))):=⟨by
    rw[HX.o]
    unfold Own
    rw[Qc,Qm,List.length_append,List.length_take]
    exact h1⟩
   have H2:Sc (Below w.heap.size w w2):=⟨(HB.o.alloc HB.o.size _).grown h2 (by have:=HB.o.size;simp;omega) (fun k hk=>(HR.o.lt k hk).1)⟩
   clear h1 h2 h3 h4 HR HB c0 c1 c2 c3
   go_wp2
   go_roundg (n - (i+1))
   case measure=>omega
   case rel=>exact⟨i+1,by go_num,by omega,Nat.le_refl _,H2,H1⟩
  ·obtain rfl:i=n:=by omega
   have HE:Sc (l.take i=l):=⟨by rw[<-HN.o,List.take_length]⟩
   go_wp2
   go_ret
   exact⟨_,rfl,by have:=HR.o;rwa [HE.o]at this,HB.o⟩
theorem X3u(w:World)(base base':Nat)(u v:Value)(l m:List (Int×Int×Int×Int))(hown:Own Qg 4 58 base w u l)(hown':Own Qg 4 58 base' w v m)(hlen:l.length<=1000000)(hlen':m.length<=1000000):
  Calls Tryz.prog 12 #[u,v] w fun e w'=>e=.returned (.bool (decide (l=m)))/\Below w.heap.size w w':=by
 obtain⟨A,cap,rfl,hnc,hcm⟩:=hown.slice
 obtain⟨A',cap',rfl,hnc',hcm'⟩:=hown'.slice
 by_cases hl:l.length=m.length
 ·obtain⟨n,hn⟩:∃n,l.length=n:=⟨_,rfl⟩
  rw[hn]at hl hown hlen hnc ⊢
  rw[<-hl]at hown' hlen' hnc' ⊢
  have HN:=Q0 hn
  have HM:=Q0 hl
  have HO:=Q0 hown
  have HO':=Q0 hown'
  clear hown hown' hn hl
  go_enter Tryz.func12,Tryz.ntmps12
  go_wp2
  go_loopg [5,6] n (fun kx s5 _ wr=>∃i:Nat,s5=.int .i64 i/\i<=n/\n - i<=kx/\Sc (Below w.heap.size w wr)/\Sc (l.take i=m.take i))
  case atStart=>exact⟨0,rfl,by omega,by omega,⟨Below.refl _ _⟩,⟨rfl⟩⟩
  case round=>
   obtain⟨i,rfl,hin,hg,HB,HE⟩:=hrel
   by_cases hlt:i<n
   ·obtain⟨x,hx⟩:∃x,l[i]? =some x:=⟨_,List.getElem?_eq_getElem (by rw[HN.o];exact hlt)⟩
    obtain⟨y,hy⟩:∃y,m[i]? =some y:=⟨_,List.getElem?_eq_getElem (by rw[<-HM.o];exact hlt)⟩
    obtain⟨g,c2,he,_,_,_,_⟩:=HO.o.form (by rw[HN.o];omega)
    injection he with hA hn2 hC
    subst hA
    obtain⟨g',c2',he',_,_,_,_⟩:=HO'.o.form (by rw[<-HM.o];omega)
    injection he' with hA' hn2' hC'
    subst hA'
    obtain⟨c0,c1,c2,c3⟩:=(HO.o.below HB.o).V6 hx
    obtain⟨d0,d1,d2,d3⟩:=(HO'.o.below HB.o).V6 hy
    have HX:=Q0 hx
    have HY:=Q0 hy
    have hil:(i:Int)<n:=by omega
    clear hx hy hn2 hC hn2' hC'
    by_cases hxy:x=y
    ·have HXY:Sc (l.take (i+1)=m.take (i+1)):=⟨by rw[List.take_add_one,List.take_add_one,HX.o,HY.o,HE.o,hxy]⟩
     have hd:decide (x=y)=true:=decide_eq_true hxy
     have HD:=Q0 hd
     clear hxy hd
     go_wp2_with fail
     go_region_with (go_at_call 43;refine(Q0u _ _ _).mono ?_;rintro e w1 ⟨rfl,hb⟩;rw[HD.o])
     all_goals
      have H2:Sc (Below w.heap.size w w1):=⟨HB.o.trans ⟨hb.os,hb.tape,hb.output,hb.size,fun q hq=>hb.block q (Nat.lt_of_lt_of_le hq HB.o.size)⟩⟩
      clear hb
      go_wp2
      go_roundg (n - (i+1))
      case measure=>omega
      case rel=>exact⟨i+1,by go_num,by omega,Nat.le_refl _,H2,HXY⟩
    ·have hd:decide (x=y)=false:=decide_eq_false hxy
     have HD:=Q0 hd
     have HF:Sc (decide (l=m)=false):=⟨decide_eq_false (fun h=>hxy (by have h1:=HX.o;rw[h,HY.o]at h1;injection h1 with h1;exact h1.symm))⟩
     clear hxy hd
     go_wp2_with fail
     go_region_with (go_at_call 43;refine(Q0u _ _ _).mono ?_;rintro e w1 ⟨rfl,hb⟩;rw[HD.o])
     all_goals
      have H2:Sc (Below w.heap.size w w1):=⟨HB.o.trans ⟨hb.os,hb.tape,hb.output,hb.size,fun q hq=>hb.block q (Nat.lt_of_lt_of_le hq HB.o.size)⟩⟩
      clear hb
      go_wp2
      go_ret
      exact⟨by rw[HF.o];rfl,H2.o⟩
   ·obtain rfl:i=n:=by omega
    have HF:Sc (decide (l=m)=true):=⟨decide_eq_true (by
     have h:=HE.o
     rw[List.take_of_length_le (by rw[HN.o];exact Nat.le_refl _),List.take_of_length_le (by rw[<-HM.o];exact Nat.le_refl _)]at h
     exact h)⟩
    go_wp2
    go_ret
    exact⟨by rw[HF.o];rfl,HB.o⟩
 ·have hd:decide (l=m)=false:=decide_eq_false (fun h=>hl (by rw[h]))
  have HD:=Q0 hd
  have hne:((l.length:Int) !=(m.length:Int))=true:=by rw[bne_iff_ne];omega
  clear hown hown' hd hl
  go_enter Tryz.func12,Tryz.ntmps12
  go_wp2
  go_ret
  exact⟨by rw[HD.o];rfl,Below.refl _ _⟩
theorem Q0v(w:World)(base base':Nat)(u v:Value)(l:List (Int×Int×Int×Int))(hown:Own Qg 4 58 base w u l)(hown':Own Qg 4 58 base' w v l)(hlen:l.length<=1000000):
  Calls Tryz.prog 12 #[u,v] w fun e w'=>e=.returned (.bool true)/\Below w.heap.size w w':=
 (X3u w base base' u v l l hown hown' hlen hlen).mono fun e w' ⟨he,hb⟩=>⟨by rw[he,decide_eq_true rfl],hb⟩
end
end Go.Proofs.YtoapihepdallbaaGreatDoor
