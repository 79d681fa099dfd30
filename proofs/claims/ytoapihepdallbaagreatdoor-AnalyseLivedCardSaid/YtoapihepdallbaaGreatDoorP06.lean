import Derived.Test.YtoapihepdallbaaGreatDoorP04
import Derived.Test.YtoapihepdallbaaGreatDoorP05
namespace Go.Proofs.YtoapihepdallbaaGreatDoor
open Go.RowKit
section
structure Fld where
 pre:Array Value
 post:Array Value
 ty:TypeId
def Fld.has(F:Fld)(w:World)(tb o:Nat)(mid:Array Value):Prop:=F.pre.size=o/\w.heap[tb]? =some (.cells (F.pre++mid++F.post) F.ty (0,0))
section
variable{F:Fld}{w w':World}{tb o:Nat}{mid:Array Value}{v u:Value}
theorem Fld.has.at(h:F.has w tb o mid):w.heap[tb]? =some (.cells (F.pre++mid++F.post) F.ty (0,0)):=h.2
theorem Fld.has.lt(h:F.has w tb o mid):tb<w.heap.size:=Q6 h.2
theorem Fld.has.cell(h:F.has w tb o mid){i:Nat}(hi:mid[i]? =some v):w.cell? ⟨tb,o+i,none⟩=some v:=by
 obtain⟨rfl,hc⟩:=h
 obtain⟨hlt,hv⟩:=Array.getElem?_eq_some_iff.1 hi
 simp only[World.cell?,hc]
 rw[Array.getElem?_append_left (by simp;omega),Array.getElem?_append_right (by omega)]
 rw[show F.pre.size+i - F.pre.size=i from by omega,hi]
 simp
theorem Fld.has.Qr(h:F.has w tb o mid)(i:Nat):w.frozen? ⟨tb,i,none⟩=false:=Q2 h.2 i
theorem Fld.has.set(h:F.has w tb o mid){i:Nat}(u:Value)(hi:i<mid.size):F.has (w.setCell ⟨tb,o+i,none⟩ u) tb o (mid.setIfInBounds i u):=by
 obtain⟨rfl,hc⟩:=h
 refine⟨rfl,?_⟩
 rw[Qn hc (F.pre.size+i) u]
 rw[Array.append_assoc,Array.setIfInBounds_append,if_neg (by omega),show F.pre.size+i - F.pre.size=i from by omega,Array.setIfInBounds_append,if_pos hi,Array.append_assoc]
theorem Fld.has.kp{S:Nat->Prop}(h:F.has w tb o mid)(k:Kp S w w')(hn:¬S tb):F.has w' tb o mid:=⟨h.1,k.at h.2 hn⟩
theorem Fld.has.bel(h:F.has w tb o mid)(hb:Below w.heap.size w w'):F.has w' tb o mid:=⟨h.1,up hb h.2⟩
theorem Fld.has.cell0(h:F.has w tb o #[v]):w.cell? ⟨tb,o,none⟩=some v:=h.cell (i:=0) rfl
theorem Fld.has.Y7m(h:F.has w tb o #[v])(u:Value):F.has (w.setCell ⟨tb,o,none⟩ u) tb o #[u]:=h.set (i:=0) u (by simp)
theorem Fld.has.Xb(h:F.has w tb o #[v,u]):w.cell? ⟨tb,o,none⟩=some v/\w.cell? ⟨tb,o+1,none⟩=some u:=⟨h.cell (i:=0) rfl,h.cell (i:=1) rfl⟩
theorem Fld.has.Y8g(h:F.has w tb o #[v,u])(x:Value):F.has (w.setCell ⟨tb,o,none⟩ x) tb o #[x,u]:=h.set (i:=0) x (by simp)
theorem Fld.has.Y8h(h:F.has w tb o #[v,u])(x:Value):F.has (w.setCell ⟨tb,o+1,none⟩ x) tb o #[v,x]:=h.set (i:=1) x (by simp)
end
structure Q0x{α:Type}(enc:α->List Value)(sz:Nat)(te:TypeId)(F:Fld)(w:World)(tb o:Nat)(row:Option Nat)(l:List α):Prop where
 val:∃v:Value,v.ownBlock=row/\F.has w tb o #[v]/\Own enc sz te 0 w v l
 apart:row≠some tb
section
variable{α:Type}{enc:α->List Value}{sz:Nat}{te:TypeId}{F:Fld}{w w' w'':World}{tb o:Nat}{row:Option Nat}{l:List α}
theorem Q0x.kp{S:Nat->Prop}(h:Q0x enc sz te F w tb o row l)(k:Kp S w w')(h1:¬S tb)(h2:∀q,row=some q->¬S q):Q0x enc sz te F w' tb o row l:=by
 obtain⟨⟨v,hv,hc,ho⟩,ha⟩:=h
 exact⟨⟨v,hv,hc.kp k h1,ho.kp k (fun q hq=>h2 q (by rw[<-hv];exact hq))⟩,ha⟩
theorem Q0x.bel(h:Q0x enc sz te F w tb o row l)(hb:Below w.heap.size w w'):Q0x enc sz te F w' tb o row l:=h.kp (Kp.Qi hb (fun _=>False)) id (fun _ _=>id)
theorem Q0x.lt(h:Q0x enc sz te F w tb o row l):tb<w.heap.size:=by obtain⟨⟨v,hv,hc,ho⟩,ha⟩:=h;exact hc.lt
def Xj(enc:α->List Value)(sz:Nat)(te:TypeId)(F:Fld)(tb o:Nat)(row:Option Nat)(l:List α)(w w':World):Prop:=
 ∃row',Q0x enc sz te F w' tb o row' l/\Kp (fun q=>q=tb\/some q=row) w w'/\(∀q,row'=some q->row=some q\/w.heap.size<=q)
theorem Xj.trans{row1:Option Nat}(hk:Kp (fun q=>q=tb\/some q=row) w w')(hat:∀q,row1=some q->row=some q\/w.heap.size<=q)(h:Xj enc sz te F tb o row1 l w' w''):Xj enc sz te F tb o row l w w'':=by
 obtain⟨row2,hr,hk2,hat2⟩:=h
 refine⟨row2,hr,hk.trans hk2 (fun q hq=> ?_),fun q hq=> ?_⟩
 ·rcases hq with hq|hq
  ·exact .inl (.inl hq)
  ·rcases hat q hq.symm with h|h
   ·exact .inl (.inr h.symm)
   ·exact .inr h
 ·rcases hat2 q hq with h|h
  ·exact hat q h
  ·exact .inr (Nat.le_trans hk.size h)
theorem Xj.stored{v u:Value}(hc:F.has w' tb o #[u])(ho:Own enc sz te w.heap.size w' v l)(hlt:tb<w.heap.size)(hb:Below w.heap.size w w'):Xj enc sz te F tb o row l w (w'.setCell ⟨tb,o,none⟩ v):=by
 have hne:∀q,v.ownBlock=some q->¬q=tb:=fun q hq he=>by have:=(ho.lt q hq).1;omega
 exact⟨v.ownBlock,⟨⟨v,rfl,hc.Y7m v,(ho.mono (Nat.zero_le _)).kp (Kp.setCell w' ⟨tb,o,none⟩ v) hne⟩,fun he=>hne tb he rfl⟩,(Kp.Qi hb _).trans (Kp.setCell w' ⟨tb,o,none⟩ v) (fun q hq=> .inl (.inl hq)),fun q hq=> .inr (ho.lt q hq).1⟩
theorem Xj.put{v u:Value}(hc:F.has w' tb o #[u])(ho:Own enc sz te 0 w' v l)(hlt:tb<w.heap.size)(hap:row≠some tb)(hk:Kp (fun q=>q=tb\/some q=row) w w')(hat:∀q,v.ownBlock=some q->row=some q\/w.heap.size<=q):Xj enc sz te F tb o row l w (w'.setCell ⟨tb,o,none⟩ v):=by
 have hne:∀q,v.ownBlock=some q->¬q=tb:=fun q hq he=>by
  rcases hat q hq with h|h
  ·exact hap (by rw[h,he])
  ·omega
 exact⟨v.ownBlock,⟨⟨v,rfl,hc.Y7m v,ho.kp (Kp.setCell w' ⟨tb,o,none⟩ v) hne⟩,fun he=>hne tb he rfl⟩,hk.trans (Kp.setCell w' ⟨tb,o,none⟩ v) (fun q hq=> .inl (.inl hq)),hat⟩
theorem Xj.Q3h{w1:World}{g n cap j:Nat}{u:Value}(h:F.has w1 tb o #[.slice (some ⟨g,0,none⟩) n cap])(ho:Own enc sz te 0 (w1.setCell ⟨g,j,none⟩ u) (.slice (some ⟨g,0,none⟩) n cap) l)(hr:(Value.slice (some ⟨g,0,none⟩) n cap).ownBlock=row)(hb:Below w.heap.size w w1)(hap:row≠some tb):Xj enc sz te F tb o row l w (w1.setCell ⟨g,j,none⟩ u):=by
 have hr':some g=row:=hr
 have hg:¬tb=g:=fun he=>hap (by rw[he,hr'])
 exact⟨row,⟨⟨_,hr,h.kp (Kp.setCell w1 ⟨g,j,none⟩ u) hg,ho⟩,hap⟩,(Kp.Qi hb _).trans (Kp.setCell w1 ⟨g,j,none⟩ u) (fun q hq=> .inl (.inr (by rw[hq];exact hr'))),fun _ hq=> .inl hq⟩
theorem Xj.drew(h:Xj enc sz te F tb o row l w w'):Xj enc sz te F tb o row l w w'.drew:=by
 obtain⟨row',⟨⟨v,hv,hc,ho⟩,ha⟩,hk,hat⟩:=h
 exact⟨row',⟨⟨v,hv,hc,ho.drew⟩,ha⟩,hk.drew,hat⟩
theorem Xj.Y1l{W w2:World}{A:Option Addr}{s c g n cap:Nat}(hb:Below w.heap.size w W)(hlt:tb<w.heap.size)(hc:F.has W tb o #[.slice A s c])(hv:(Value.slice A s c).ownBlock=row)(hap:row≠some tb)(ho:Own enc sz te 0 w2 (.slice (some ⟨g,0,none⟩) n cap) l)(hg:W.grownBy w2 (Value.slice A s c).ownBlock)(hat:(Value.slice A s c).ownBlock=some g\/W.heap.size<=g):
  F.has w2 tb o #[.slice A s c]/\Xj enc sz te F tb o row l w (w2.setCell ⟨tb,o,none⟩ (.slice (some ⟨g,0,none⟩) n cap)):=by
 have hc2:F.has w2 tb o #[.slice A s c]:=hc.kp (Kp.Zl hg) (fun he=>hap (by rw[<-hv];exact he.symm))
 refine⟨hc2,Xj.put hc2 ho hlt hap ((Kp.Qi hb _).trans (Kp.Zl hg) (fun q hq=> .inl (.inr (by rw[hq,hv])))) (fun q hq=> ?_)⟩
 have hq':g=q:=by injection hq
 subst hq'
 rcases hat with h|h
 ·exact .inl (by rw[<-hv];exact h)
 ·have:=hb.size
  exact .inr (by omega)
end
end
section
set_option maxHeartbeats 2000000
set_option maxRecDepth 4000
variable{R:Fld}{o:Nat}
structure Zs(R:Fld)(o:Nat)(w:World)(tb:Nat)(row:Option Nat)(l:List TX)(m:Int):Prop where
 val:∃v:Value,v.ownBlock=row/\R.has w tb o #[v,.int .i64 m]/\Own Qg 4 58 0 w v l
 apart:row≠some tb
 rising:Qd l
theorem Zs.kp{w w':World}{tb:Nat}{row:Option Nat}{l:List TX}{m:Int}{S:Nat->Prop}(h:Zs R o w tb row l m)(k:Kp S w w')(h1:¬S tb)(h2:∀q,row=some q->¬S q):Zs R o w' tb row l m:=by
 obtain⟨⟨v,hv,hc,hown⟩,hap,hr⟩:=h
 exact⟨⟨v,hv,hc.kp k h1,hown.kp k (fun q hq=>h2 q (by rw[<-hv];exact hq))⟩,hap,hr⟩
theorem Zs.bel{w w':World}{tb:Nat}{row:Option Nat}{l:List TX}{m:Int}(h:Zs R o w tb row l m)(hb:Below w.heap.size w w'):Zs R o w' tb row l m:=h.kp (Kp.Qi hb (fun _=>False)) id (fun _ _=>id)
def Y4(R:Fld)(o:Nat)(tb:Nat)(row:Option Nat)(l:List TX)(m:Int)(w w':World):Prop:=
 ∃row',Zs R o w' tb row' l m/\Kp (fun q=>q=tb\/some q=row) w w'/\(row'=row\/∀q,row'=some q->w.heap.size<=q)
theorem Y4.same{tb:Nat}{row:Option Nat}{l:List TX}{m:Int}{w w':World}(h:Zs R o w tb row l m)(hb:Below w.heap.size w w'):Y4 R o tb row l m w w':=⟨row,h.bel hb,Kp.Qi hb _,.inl rfl⟩
theorem Y4.stored{tb:Nat}{row:Option Nat}{l:List TX}{m:Int}{w w2:World}{v u:Value}(hc:R.has w2 tb o #[u,.int .i64 m])(hown:Own Qg 4 58 0 w2 v l)(hr:Qd l)
  (hlt:tb<w.heap.size) (hk:Kp (fun q=>q=tb\/some q=row) w w2) (hat:∀q,v.ownBlock=some q->w.heap.size<=q):Y4 R o tb row l m w (w2.setCell ⟨tb,o,none⟩ v):=by
 have hne:v.ownBlock≠some tb:=by
  intro he
  have:=hat _ he;omega
 refine⟨v.ownBlock,⟨⟨v,rfl,?_,hown.kp (Kp.setCell w2 _ v) (fun q hq he=>hne (by rw[hq,he]))⟩,hne,hr⟩,?_,.inr hat⟩
 ·exact hc.Y8g v
 ·exact hk.trans (Kp.setCell w2 ⟨tb,o,none⟩ v) (fun q hq=> .inl (.inl hq))
theorem Y4.U0{tb:Nat}{row:Option Nat}{l:List TX}{m m':Int}{w:World}(h:Zs R o w tb row l m):Y4 R o tb row l m' w (w.setCell ⟨tb,o+1,none⟩ (.int .i64 m')):=by
 obtain⟨⟨v,hv,hc,hown⟩,hap,hr⟩:=h
 refine⟨row,⟨⟨v,hv,?_,hown.kp (Kp.setCell w _ _) (fun q hq he=>hap (by rw[<-hv,hq,he]))⟩,hap,hr⟩,(Kp.setCell w ⟨tb,o+1,none⟩ _).mono (fun q hq=> .inl hq),.inl rfl⟩
 exact hc.Y8h _
theorem Q6a(w:World)(tb:Nat)(row:Option Nat)(l:List TX)(m:Int)(p:Int)(h:Zs R o w tb row l m):
  Calls Tryz.prog 81 #[.pointer (some ⟨tb,o,none⟩),.int .i64 p] w fun e w'=>e=.returned (.tuple #[])/\Y4 R o tb row l (max m p) w w':=by
 have HT:=Q0 h
 obtain⟨⟨v,hv,hc,hown⟩,hap,hr⟩:=h
 obtain⟨c0,c1⟩:=hc.Xb
 have z1:=hc.Qr (o+1)
 clear hown hr hc hv hap
 by_cases hmp:m<p
 ·have HM:Sc (max m p=p):=⟨by omega⟩
  go_enter Tryz.func81,Tryz.ntmps81
  go_wp2
  go_end0
  exact⟨rfl,by rw[HM.o];exact Y4.U0 HT.o⟩
 ·have HM:Sc (max m p=m):=⟨by omega⟩
  go_enter Tryz.func81,Tryz.ntmps81
  go_wp2
  go_end0
  exact⟨rfl,by rw[HM.o];exact Y4.U0 HT.o⟩
theorem Ea(w:World)(tb:Nat)(row:Option Nat)(l:List TX)(m:Int)(p:Int)(h:Zs R o w tb row l m)(hlen:l.length<=1000000):
  Calls Tryz.prog 128 #[.pointer (some ⟨tb,o,none⟩),.int .i64 p] w fun e w'=>e=.returned (.int .i64 (if has l p=true then(pos l p:Int) else -1))/\w=w':=by
 obtain⟨⟨v,hv,hc,hown⟩,hap,hr⟩:=h
 obtain⟨A,cap,rfl,hnc,hcm⟩:=hown.slice
 obtain⟨n,hn⟩:∃n,l.length=n:=⟨_,rfl⟩
 rw[hn]at hown hlen hc
 obtain⟨hc1,_⟩:=hc.Xb
 have HN:=Q0 hn
 have HO:=Q0 hown
 have HR:=Q0 hr
 clear hown hr hc hv hap hn hnc
 generalize hrr:(if has l p=true then(pos l p:Int) else -1)=r
 have HRR:=Q0 hrr
 clear hrr
 go_enter Tryz.func128,Tryz.ntmps128
 go_wp2
 go_loop [5] (fun s5=>∃i:Nat,s5=.int .i64 i/\i<=n/\Sc (∀j x,j<i->l[j]? =some x->x.1≠p)) (fun s5=>n - (intOf s5).toNat)
 case atStart=>exact⟨0,rfl,by omega,⟨fun j x hj=>absurd hj (Nat.not_lt_zero _)⟩⟩
 case round=>
  obtain⟨i,rfl,hi,HI⟩:=hrel
  by_cases hlt:i<n
  ·obtain⟨x,hx⟩:∃x,l[i]? =some x:=⟨_,List.getElem?_eq_getElem (by rw[HN.o];exact hlt)⟩
   obtain⟨g,cq,he,_,_,_,_⟩:=HO.o.form (by rw[HN.o];omega)
   injection he with hA hn2 hC
   subst hA
   obtain⟨d0,_⟩:=HO.o.V6 hx
   have HX:=Q0 hx
   have hil:(i:Int)<n:=by omega
   clear hx hC hn2
   by_cases hp:x.1=p
   ·have hb:(x.1==p)=true:=by simp[hp]
    have HL:Sc (r=(i:Int)):=⟨by rw[<-HRR.o,<-hp,if_pos (Gd HX.o),Y7i HR.o HX.o]⟩
    clear hp
    go_wp2
    go_ret
    exact⟨by rw[HL.o];rfl,rfl⟩
   ·have hb:(x.1==p)=false:=by simp[hp]
    have HJ:Sc (∀j y,j<i+1->l[j]? =some y->y.1≠p):=⟨fun j y hj hy=>by
     rcases Nat.lt_succ_iff_lt_or_eq.1 hj with h|h
     ·exact HI.o j y h hy
     ·subst h;have h1:=HX.o;rw[hy]at h1;injection h1 with h1;subst h1;exact hp⟩
    clear hp
    go_wp2
    go_round
    case rel=>exact⟨i+1,by go_num,by omega,HJ⟩
    case measure=>simp[intOf];omega
  ·obtain rfl:i=n:=by omega
   have HL:Sc (r= -1):=⟨by
    rw[<-HRR.o,if_neg]
    intro hh
    obtain⟨x,hx,hk⟩:=Qy.1 hh
    obtain⟨j,hj⟩:=List.mem_iff_getElem?.1 hx
    exact absurd hk (HI.o j x (by rw[<-HN.o];exact(List.getElem?_eq_some_iff.1 hj).1) hj)⟩
   go_wp2
   go_ret
   exact⟨by rw[HL.o];rfl,rfl⟩
theorem Cl(w:World)(tb:Nat)(row:Option Nat)(l:List TX)(m:Int)(p:Int)(h:Zs R o w tb row l m)(hlen:l.length<=1000000)(hh:has l p=true):
  Calls Tryz.prog 128 #[.pointer (some ⟨tb,o,none⟩),.int .i64 p] w fun e w'=>e=.returned (.int .i64 (pos l p))/\Below w.heap.size w w':=
 (Ea w tb row l m p h hlen).mono fun e w' ⟨he,hw⟩=>⟨by rw[he,if_pos hh],by subst hw;exact Below.refl _ _⟩
theorem Dk(w:World)(tb:Nat)(row:Option Nat)(l:List TX)(m:Int)(p:Int)(h:Zs R o w tb row l m)(hlen:l.length<=1000000)(hh:has l p=false):
  Calls Tryz.prog 128 #[.pointer (some ⟨tb,o,none⟩),.int .i64 p] w fun e w'=>e=.returned (.int .i64 (-1))/\Below w.heap.size w w':=
 (Ea w tb row l m p h hlen).mono fun e w' ⟨he,hw⟩=>⟨by rw[he,if_neg (by rw[hh];exact Bool.false_ne_true)],by subst hw;exact Below.refl _ _⟩
theorem Q8p(w:World)(tb:Nat)(row:Option Nat)(l:List TX)(m:Int)(p:Int)(h:Zs R o w tb row l m)(hlen:l.length<=1000000):
  Calls Tryz.prog 82 #[.pointer (some ⟨tb,o,none⟩),.int .i64 p] w fun e w'=>e=.returned (.tuple #[Gn (got l p),.bool (has l p)])/\Below w.heap.size w w':=by
 have HZ:Sc ((w.alloc (.cells #[.int .i64 0,.int .i64 0,.int .i64 0,.int .i64 0] 58)).heap[w.heap.size]? =some (.cells #[.int .i64 0,.int .i64 0,.int .i64 0,.int .i64 0] 58 (0,0))):=⟨heap_alloc_new _ _⟩
 have HT:Sc (Zs R o (w.alloc (.cells #[.int .i64 0,.int .i64 0,.int .i64 0,.int .i64 0] 58)) tb row l m):=⟨h.bel ((Below.refl _ _).alloc (Nat.le_refl _) _)⟩
 by_cases hh:has l p=true
 ·have HHY:=Q0 hh
  obtain⟨⟨v,hv,hc,hown⟩,hap,hr⟩:=HT.o
  have hlt:=Ow hr hh
  obtain⟨g,cap,rfl,_,_,_,_⟩:=hown.form (by omega)
  obtain⟨x,hx,hxp⟩:=(Zq hr p).1 hh
  have HL:Sc (got l p=x):=⟨by unfold got;rw[if_pos hh,hx];rfl⟩
  have HO:=Q0 hown
  have HC:=Q0 hc
  have HX:=Q0 hx
  clear hown hv hc hr hap hx hxp
  go_enter Tryz.func82,Tryz.ntmps82
  go_wp2_with fail
  refine(Cl _ tb row l m _ HT.o hlen HHY.o).mono ?_
  rintro e w1 ⟨rfl,hb⟩
  obtain⟨hc1,_⟩:=(HC.o.bel hb).Xb
  obtain⟨d0,d1,d2,d3⟩:=(HO.o.below hb).V6 HX.o
  have hz:=(hb.block _ (Q6 HZ.o)).trans HZ.o
  have q0:w1.cell? ⟨w.heap.size,0,none⟩=some (.int .i64 0):=by simp[World.cell?,hz]
  have q1:w1.cell? ⟨w.heap.size,1,none⟩=some (.int .i64 0):=by simp[World.cell?,hz]
  have q2:w1.cell? ⟨w.heap.size,2,none⟩=some (.int .i64 0):=by simp[World.cell?,hz]
  have q3:w1.cell? ⟨w.heap.size,3,none⟩=some (.int .i64 0):=by simp[World.cell?,hz]
  have z0:=Q2 hz 0
  have z1:=Q2 hz 1
  have z2:=Q2 hz 2
  have z3:=Q2 hz 3
  have HB1:=Q0 hb
  clear hb hz
  go_wp2
  refine bodyPost_ret (v:=.tuple #[Gn x,.bool true]) (by simp[results,Tryz.results82,go_sem,q0,q1,q2,q3]) rfl ⟨by rw[HL.o];simp[hh],?_⟩
  have hB:Below w.heap.size w w1:=((Below.refl _ _).alloc (Nat.le_refl _) (.cells #[.int .i64 0,.int .i64 0,.int .i64 0,.int .i64 0] 58)).trans (HB1.o.mono (by simp))
  exact(((hB.setCell (by simp) _).setCell (by simp) _).setCell (by simp) _).setCell (by simp) _
 ·have hh:has l p=false:=by simpa using hh
  have HHN:=Q0 hh
  have HL:Sc (got l p=(0,0,0,0)):=⟨by unfold got;rw[if_neg (by rw[hh];exact Bool.false_ne_true)]⟩
  clear h
  go_enter Tryz.func82,Tryz.ntmps82
  go_wp2_with fail
  refine(Dk _ tb row l m _ HT.o hlen HHN.o).mono ?_
  rintro e w1 ⟨rfl,hb⟩
  have hz:=(hb.block _ (Q6 HZ.o)).trans HZ.o
  have q0:w1.cell? ⟨w.heap.size,0,none⟩=some (.int .i64 0):=by simp[World.cell?,hz]
  have q1:w1.cell? ⟨w.heap.size,1,none⟩=some (.int .i64 0):=by simp[World.cell?,hz]
  have q2:w1.cell? ⟨w.heap.size,2,none⟩=some (.int .i64 0):=by simp[World.cell?,hz]
  have q3:w1.cell? ⟨w.heap.size,3,none⟩=some (.int .i64 0):=by simp[World.cell?,hz]
  have z0:=Q2 hz 0
  have z1:=Q2 hz 1
  have z2:=Q2 hz 2
  have z3:=Q2 hz 3
  have HB1:=Q0 hb
  clear hb hz
  go_wp2
  refine bodyPost_ret (v:=.tuple #[Gn (0,0,0,0),.bool false]) (by simp[results,Tryz.results82,go_sem,q0,q1,q2,q3]) rfl ⟨by rw[HL.o];simp[hh],?_⟩
  have hB:Below w.heap.size w w1:=((Below.refl _ _).alloc (Nat.le_refl _) (.cells #[.int .i64 0,.int .i64 0,.int .i64 0,.int .i64 0] 58)).trans (HB1.o.mono (by simp))
  exact(((hB.setCell (by simp) _).setCell (by simp) _).setCell (by simp) _).setCell (by simp) _
theorem Y4.X6w{tb g n cap:Nat}{l l':List TX}{m:Int}{w w':World}(h:Zs R o w tb (some g) l m)(hc:R.has w tb o #[.slice (some ⟨g,0,none⟩) n cap,.int .i64 m])
  (hown:Own Qg 4 58 0 w' (.slice (some ⟨g,0,none⟩) n cap) l') (hr:Qd l') (hk:Kp (fun q=>q=g) w w') (hn:¬tb=g):Y4 R o tb (some g) l' m w w':=
 ⟨some g,⟨⟨_,rfl,hc.kp hk hn,hown⟩,h.apart,hr⟩,hk.mono (fun q hq=> .inr (by rw[hq])),.inl rfl⟩
theorem Q2p(w:World)(tb:Nat)(row:Option Nat)(l:List TX)(m:Int)(p s:Int)(h:Zs R o w tb row l m)(hlen:l.length<=1000000):
  Calls Tryz.prog 83 #[.pointer (some ⟨tb,o,none⟩),.int .i64 p,.int .i64 s] w fun e w'=>e=.returned (.bool (has l p))/\Y4 R o tb row (upd l p (fun y=>(s,y.2.1,y.2.2))) m w w':=by
 by_cases hh:has l p=true
 ·have HHY:=Q0 hh
  have HT:=Q0 h
  obtain⟨⟨v,hv,hc,hown⟩,hap,hr⟩:=h
  have hlt:=Ow hr hh
  obtain⟨g,cap,rfl,_,_,_,_⟩:=hown.form (by omega)
  obtain⟨x,hx,hxp⟩:=(Zq hr p).1 hh
  have hv:some g=row:=hv
  subst hv
  have HU:Sc (upd l p (fun y=>(s,y.2.1,y.2.2))=l.set (pos l p) (x.1,s,x.2.2.1,x.2.2.2)):=⟨Za _ hh hx⟩
  have HR:Sc (Qd (upd l p (fun y=>(s,y.2.1,y.2.2)))):=⟨Jw hr p _⟩
  have HO:=Q0 hown
  have HC:=Q0 hc
  have HX:=Q0 hx
  have HH:=Q0 hh
  have HP:=Q0 hap
  have hgt:¬tb=g:=fun he=>hap (by rw[he])
  have hgt2:¬g=tb:=fun he=>hgt he.symm
  clear hown hv hc hr hap hx hxp
  go_enter Tryz.func83,Tryz.ntmps83
  go_wp2_with (go_at_call 128;refine(Cl _ tb _ l m _ HT.o hlen HHY.o).mono ?_;rintro e w1 ⟨rfl,hb⟩;obtain⟨hc1,_⟩:=(HC.o.bel hb).Xb;obtain⟨d0,d1,d2,d3⟩:=(HO.o.below hb).V6 HX.o;have z1:=(HO.o.below hb).Qr (pos l p*4+1);have HB1:=Q0 hb;clear hb)
  go_ret
  refine⟨by rw[HH.o];rfl,?_⟩
  have hk:=(Kp.Qi HB1.o (fun q=>q=g)).trans (Kp.setCell w1 ⟨g,pos l p*4+1,none⟩ (.int .i64 s)) (fun q hq=> .inl hq)
  refine Y4.X6w HT.o HC.o ?_ HR.o hk (fun he=>HP.o (by rw[he]))
  rw[HU.o]
  exact Own.set X8 (HO.o.below HB1.o) (k:=pos l p) (j:=1) (x:=x) (x':=(x.1,s,x.2.2.1,x.2.2.2)) (u:=.int .i64 s) HX.o (by omega) rfl
 ·have hh:has l p=false:=by simpa using hh
  have HHN:=Q0 hh
  have HT:=Q0 h
  have HA:Sc (upd l p (fun y=>(s,y.2.1,y.2.2))=l):=⟨E8 _ hh⟩
  clear h
  go_enter Tryz.func83,Tryz.ntmps83
  go_wp2_with (go_at_call 128;refine(Dk _ tb row l m _ HT.o hlen HHN.o).mono ?_;rintro e w' ⟨rfl,hb⟩)
  go_ret
  exact⟨by simp[hh],by rw[HA.o];exact Y4.same HT.o hb⟩
theorem Q5z(w:World)(tb:Nat)(row:Option Nat)(l:List TX)(m:Int)(p a b:Int)(h:Zs R o w tb row l m)(hlen:l.length<=1000000):
  Calls Tryz.prog 85 #[.pointer (some ⟨tb,o,none⟩),.int .i64 p,.int .i64 a,.int .i64 b] w fun e w'=>e=.returned (.bool (has l p))/\Y4 R o tb row (upd l p (fun y=>(y.1,a,b))) m w w':=by
 by_cases hh:has l p=true
 ·have HHY:=Q0 hh
  have HT:=Q0 h
  obtain⟨⟨v,hv,hc,hown⟩,hap,hr⟩:=h
  have hlt:=Ow hr hh
  obtain⟨g,cap,rfl,_,_,_,_⟩:=hown.form (by omega)
  obtain⟨x,hx,hxp⟩:=(Zq hr p).1 hh
  have hv:some g=row:=hv
  subst hv
  have HU:Sc (upd l p (fun y=>(y.1,a,b))=l.set (pos l p) (x.1,x.2.1,a,b)):=⟨Za _ hh hx⟩
  have HR:Sc (Qd (upd l p (fun y=>(y.1,a,b)))):=⟨Jw hr p _⟩
  have HO:=Q0 hown
  have HC:=Q0 hc
  have HX:=Q0 hx
  have HH:=Q0 hh
  have HP:=Q0 hap
  have hgt:¬tb=g:=fun he=>hap (by rw[he])
  have hgt2:¬g=tb:=fun he=>hgt he.symm
  have hltI:(pos l p:Int)<l.length:=by omega
  clear hown hv hc hr hap hx hxp
  go_enter Tryz.func85,Tryz.ntmps85
  go_wp2_with (go_at_call 128;refine(Cl _ tb _ l m _ HT.o hlen HHY.o).mono ?_;rintro e w1 ⟨rfl,hb⟩;obtain⟨hc1,_⟩:=(HC.o.bel hb).Xb;obtain⟨d0,d1,d2,d3⟩:=(HO.o.below hb).V6 HX.o;have z2:=(HO.o.below hb).Qr (pos l p*4+2);have z3:=(HO.o.below hb).Qr (pos l p*4+3);have HB1:=Q0 hb;clear hb)
  go_ret
  refine⟨by rw[HH.o];rfl,?_⟩
  have hk1:=(Kp.Qi HB1.o (fun q=>q=g)).trans (Kp.setCell w1 ⟨g,pos l p*4+2,none⟩ (.int .i64 a)) (fun q hq=> .inl hq)
  have hk:=(hk1.trans (Kp.setCell _ ⟨g,pos l p*4+3,none⟩ (.int .i64 b)) (fun q hq=> .inl hq))
  refine Y4.X6w HT.o HC.o ?_ HR.o hk (fun he=>HP.o (by rw[he]))
  rw[HU.o]
  have h1:=Own.set X8 (HO.o.below HB1.o) (k:=pos l p) (j:=2) (x:=x) (x':=(x.1,x.2.1,a,x.2.2.2)) (u:=.int .i64 a) HX.o (by omega) rfl
  have h2:=Own.set X8 h1 (k:=pos l p) (j:=3) (x:=(x.1,x.2.1,a,x.2.2.2)) (x':=(x.1,x.2.1,a,b)) (u:=.int .i64 b) (by rw[List.getElem?_set_self (List.getElem?_eq_some_iff.1 HX.o).1]) (by omega) rfl
  rw[List.set_set]at h2
  exact h2
 ·have hh:has l p=false:=by simpa using hh
  have HHN:=Q0 hh
  have HT:=Q0 h
  have HA:Sc (upd l p (fun y=>(y.1,a,b))=l):=⟨E8 _ hh⟩
  clear h
  go_enter Tryz.func85,Tryz.ntmps85
  go_wp2_with (go_at_call 128;refine(Dk _ tb row l m _ HT.o hlen HHN.o).mono ?_;rintro e w' ⟨rfl,hb⟩)
  go_ret
  exact⟨by simp[hh],by rw[HA.o];exact Y4.same HT.o hb⟩
theorem Ck(w:World)(tb:Nat)(row:Option Nat)(l:List TX)(m:Int)(p:Int)(h:Zs R o w tb row l m)(hlen:l.length<=1000000):
  Calls Tryz.prog 84 #[.pointer (some ⟨tb,o,none⟩),.int .i64 p] w fun e w'=>e=.returned (.bool (has l p))/\Y4 R o tb row (X4 l p) m w w':=by
 have HTab:=Q0 h
 have HLen:=Q0 hlen
 cases hh:has l p with
 |false=>
  have HH:=Q0 hh
  have HD:Sc (X4 l p=l):=⟨drop'_no hh⟩
  clear h hh hlen
  go_enter Tryz.func84,Tryz.ntmps84
  go_wp2_with (go_at_call 128;refine(Dk _ tb row l m _ HTab.o HLen.o HH.o).mono ?_;rintro e w1 ⟨rfl,hb⟩;have HB1:=Q0 hb;clear hb)
  go_ret
  exact⟨rfl,by rw[HD.o];exact Y4.same HTab.o HB1.o⟩
 |true=>
  obtain⟨i0,hi,hz0,hz1,hz2⟩:=info_parts Q0b
  obtain⟨⟨v,hv,hc,hown⟩,hap,hr⟩:=h
  have hlt:=Ow hr hh
  obtain⟨g,cap,rfl,_,hgw,hnc,hcm⟩:=hown.form (by omega)
  obtain⟨n,hn⟩:∃n,l.length=n:=⟨_,rfl⟩
  rw[hn]at hown hlen hc hlt hnc
  obtain⟨i,hpi⟩:∃i,pos l p=i:=⟨_,rfl⟩
  have HPL:Sc ((if has l p=true then(pos l p:Int) else -1)=(i:Int)):=⟨by rw[if_pos hh,hpi]⟩
  rw[hpi]at hlt
  obtain⟨hc1,_⟩:=hc.Xb
  have hfz:=hc.Qr o
  have HTL:=Q0 (hc.lt)
  have HC:=Q0 hc
  have HO:=Q0 hown
  have HR:=Q0 hr
  have HL:=Q0 hh
  have HD:Sc (X4 l p=l.take i++l.drop (i+1)):=⟨by rw[drop'_yes hh,hpi]⟩
  have HTk:=Q0 (hown.take X8 (k:=i) (by omega))
  have HT:Sc ((l.take i).length=i):=⟨by rw[List.length_take,hn];omega⟩
  have HE:Sc ((l.drop (i+1)).length=n - (i+1)):=⟨by rw[List.length_drop,hn]⟩
  have HTl0:Sc (∀j u,(flat Qg (l.drop (i+1)))[j]? =some u->w.cell? ((⟨g,(i+1)*4,none⟩:Addr).add j)=some u):=⟨hown.tail X8 (i+1)⟩
  have hil:(i:Int)<n:=by omega
  have n0:i<=cap:=by omega
  have n1:n<=cap:=by omega
  have n2:(i:Int)<=cap:=by omega
  have n3:(i:Int)+1<=n:=by omega
  have n4:((i:Int)+1).toNat=i+1:=by omega
  have n5:(0:Int)<=(i:Int)+1:=by omega
  have n6:(n:Int)<=cap:=by omega
  have n7:¬(i:Int)<0:=by omega
  clear hown hc hr hv hap hn hh hpi hgw
  by_cases hcap:cap=i+1
  ·subst hcap
   have HTl:Sc (∀j u,(flat Qg (l.drop (i+1)))[j]? =some u->w.cell? ((⟨g,0,none⟩:Addr).add j)=some u):=⟨fun j u hj=>by
    have hz:l.drop (i+1)=[]:=List.eq_nil_of_length_eq_zero (by rw[HE.o];omega)
    rw[hz]at hj;cases hj⟩
   clear HTl0 hcm
   go_enter Tryz.func84,Tryz.ntmps84
   go_wp2_with (first|(go_at_call 128;refine(Ea _ tb row l m _ HTab.o HLen.o).mono ?_;rintro e w1 ⟨rfl,rfl⟩;rw[HPL.o])|(go_at_call 126;refine(Vp w 0 _ (l.take i) HTk.o (by rw[HT.o];omega)).mono ?_;rintro e w2 ⟨v2,rfl,ho,hb2⟩;obtain⟨A2,c2,rfl,_,_⟩:=ho.slice;have hcw2:=HC.o.bel hb2;obtain⟨hc2,_⟩:=hcw2.Xb;have HO2:=Q0 ho;have HB2:=Q0 hb2;rw[HT.o]at HO2 ⊢;clear ho hb2 hcw2)|(at_builtin;go_loud (refine wpList_append_own_at _ rfl (.tmp 20) (.tmp 27) 31 rfl w.heap.size 58 i0 (.agg #[.int .i64 0,.int .i64 0,.int .i64 0,.int .i64 0]) 4 32 Tryz.underlying31 hi hz0 hz1 hz2 rfl (by decide) _ i (flat Qg (l.take i)) rfl (HO2.o.rows HT.o) ⟨g,0,none⟩ 0 0 (flat Qg (l.drop (i+1))) rfl ?c1 (Xo HB2.o HTl.o) (X8.Xk _) ?c3 ?c4 ?c5 ?_)))
   case c1=>rw[X8.Qp,HE.o]<;>omega
   case c3=>unfold maxLen;omega
   case c4=>omega
   case c5=>exact HB2.o.size
   intro v3 w3 h1 h2 h3 h4
   have H1:Sc (Own Qg 4 58 w.heap.size w3 v3 (X4 l p)):=⟨Own.Qv h1 (by rw[HD.o,List.length_append,HT.o,HE.o]<;>omega) (by rw[HD.o,Qc])⟩
   have H2:Sc (Below w.heap.size w w3):=⟨HB2.o.grown h2 HB2.o.size (fun k hk=>(HO2.o.lt k hk).1)⟩
   have hcw3:=HC.o.bel H2.o
   obtain⟨hc3,_⟩:=hcw3.Xb
   have hf3:=hcw3.Qr o
   have HC3:=Q0 hcw3
   obtain⟨A3,n3',c3,rfl⟩:=H1.o.slice3
   clear h1 h2 h3 h4 hcw3
   go_wp2
   go_ret
   refine⟨rfl,?_⟩
   exact Y4.stored HC3.o (H1.o.mono (Nat.zero_le _)) (drop'_rising HR.o p) HTL.o (Kp.Qi H2.o _) (fun q hq=>(H1.o.lt q hq).1)
  ·have HTl:=HTl0
   clear HTl0 hcm
   go_enter Tryz.func84,Tryz.ntmps84
   go_wp2_with (first|(go_at_call 128;refine(Ea _ tb row l m _ HTab.o HLen.o).mono ?_;rintro e w1 ⟨rfl,rfl⟩;rw[HPL.o])|(go_at_call 126;refine(Vp w 0 _ (l.take i) HTk.o (by rw[HT.o];omega)).mono ?_;rintro e w2 ⟨v2,rfl,ho,hb2⟩;obtain⟨A2,c2,rfl,_,_⟩:=ho.slice;have hcw2:=HC.o.bel hb2;obtain⟨hc2,_⟩:=hcw2.Xb;have HO2:=Q0 ho;have HB2:=Q0 hb2;rw[HT.o]at HO2 ⊢;clear ho hb2 hcw2)|(at_builtin;go_loud (refine wpList_append_own_at _ rfl (.tmp 20) (.tmp 27) 31 rfl w.heap.size 58 i0 (.agg #[.int .i64 0,.int .i64 0,.int .i64 0,.int .i64 0]) 4 32 Tryz.underlying31 hi hz0 hz1 hz2 rfl (by decide) _ i (flat Qg (l.take i)) rfl (HO2.o.rows HT.o) ⟨g,(i+1)*4,none⟩ (n - (i+1)) (cap - (i+1)) (flat Qg (l.drop (i+1))) rfl ?c1 (Xo HB2.o HTl.o) (X8.Xk _) ?c3 ?c4 ?c5 ?_)))
   case c1=>rw[X8.Qp,HE.o]<;>omega
   case c3=>unfold maxLen;omega
   case c4=>omega
   case c5=>exact HB2.o.size
   intro v3 w3 h1 h2 h3 h4
   have H1:Sc (Own Qg 4 58 w.heap.size w3 v3 (X4 l p)):=⟨Own.Qv h1 (by rw[HD.o,List.length_append,HT.o,HE.o]<;>omega) (by rw[HD.o,Qc])⟩
   have H2:Sc (Below w.heap.size w w3):=⟨HB2.o.grown h2 HB2.o.size (fun k hk=>(HO2.o.lt k hk).1)⟩
   have hcw3:=HC.o.bel H2.o
   obtain⟨hc3,_⟩:=hcw3.Xb
   have hf3:=hcw3.Qr o
   have HC3:=Q0 hcw3
   obtain⟨A3,n3',c3,rfl⟩:=H1.o.slice3
   clear h1 h2 h3 h4 hcw3
   go_wp2
   go_ret
   refine⟨rfl,?_⟩
   exact Y4.stored HC3.o (H1.o.mono (Nat.zero_le _)) (drop'_rising HR.o p) HTL.o (Kp.Qi H2.o _) (fun q hq=>(H1.o.lt q hq).1)
end
section
variable{R:Fld}{oo:Nat}
def Ob(R:Fld)(oo:Nat)(w w1:World)(tb:Nat)(row:Option Nat)(l:List TX)(m:Int)(o:Obj):Prop:=
 ∃row1,Zs R oo w1 tb row1 l m/\Kp (fun q=>q=tb\/some q=row) w w1/\(row1=row\/∀q,row1=some q->w.heap.size<=q)/\w1.heap[w.heap.size]? =(w.alloc o).heap[w.heap.size]?/\tb<w.heap.size/\row1≠some w.heap.size
section
variable{w w1 w2:World}{tb:Nat}{row:Option Nat}{l l':List TX}{m m':Int}{o:Obj}
theorem Ob.start(h:Zs R oo w tb row l m)(o:Obj):Ob R oo w (w.alloc o) tb row l m o:=by
 refine⟨row,h.bel ((Below.refl _ _).alloc (Nat.le_refl _) o),Kp.alloc _ _ _,.inl rfl,rfl,?_,?_⟩
 ·obtain⟨⟨v,hv,hc,hown⟩,_,_⟩:=h;exact hc.lt
 ·obtain⟨⟨v,hv,hc,hown⟩,_,_⟩:=h
  intro he
  have:=(hown.lt _ (hv.trans he)).2
  omega
theorem Ob.lt(h:Ob R oo w w1 tb row l m o):w.heap.size<w1.heap.size:=by
 obtain⟨_,_,_,_,hb,_,_⟩:=h
 rw[heap_alloc_new]at hb
 exact Q6 hb
theorem Ob.step{row1:Option Nat}(_h1:Zs R oo w1 tb row1 l m)(hk:Kp (fun q=>q=tb\/some q=row) w w1)(hat:row1=row\/∀q,row1=some q->w.heap.size<=q)(hb:w1.heap[w.heap.size]? =(w.alloc o).heap[w.heap.size]?)(htl:tb<w.heap.size)(hr1:row1≠some w.heap.size)
  (hl:Y4 R oo tb row1 l' m' w1 w2):Ob R oo w w2 tb row l' m' o:=by
 obtain⟨row2,ht2,hk2,hat2⟩:=hl
 have hlt:w.heap.size<w1.heap.size:=by rw[heap_alloc_new]at hb;exact Q6 hb
 refine⟨row2,ht2,hk.trans hk2 (fun q hq=> ?_),?_,?_,htl,?_⟩
 ·rcases hq with hq|hq
  ·exact .inl (.inl hq)
  ·rcases hat with hat|hat
   ·exact .inl (.inr (by rw[<-hat];exact hq))
   ·exact .inr (hat q hq.symm)
 ·rcases hat2 with h2|hat2
  ·rcases hat with hat|hat
   ·exact .inl (h2.trans hat)
   ·exact .inr (fun q hq=>hat q (h2.symm.trans hq))
  ·exact .inr (fun q hq=>Nat.le_trans (Nat.le_of_lt hlt) (Nat.le_trans (Nat.le_refl _) (hat2 q hq)))
 ·exact(hk2.block _ hlt (fun hq=>hq.elim (fun h=>by omega) (fun h=>hr1 h.symm))).trans hb
 ·rcases hat2 with h2|hat2
  ·rw[h2];exact hr1
  ·intro he;have:=hat2 _ he;omega
end
section
variable(w w1:World)(tb:Nat)(row:Option Nat)(l:List TX)(m:Int)(o:Obj)(p:Int)
theorem Y1a(h:Ob R oo w w1 tb row l m o):
  Calls Tryz.prog 81 #[.pointer (some ⟨tb,oo,none⟩),.int .i64 p] w1 fun e w'=>e=.returned (.tuple #[])/\Ob R oo w w' tb row l (max m p) o:=by
 obtain⟨row1,h1,hk,hat,hbo,htl,hr1⟩:=h
 exact(Q6a w1 tb row1 l m p h1).mono fun e w' ⟨he,hl⟩=>⟨he,Ob.step h1 hk hat hbo htl hr1 hl⟩
theorem Y0z(h:Ob R oo w w1 tb row l m o)(hlen:l.length<=1000000):
  Calls Tryz.prog 84 #[.pointer (some ⟨tb,oo,none⟩),.int .i64 p] w1 fun e w'=>e=.returned (.bool (has l p))/\Ob R oo w w' tb row (X4 l p) m o:=by
 obtain⟨row1,h1,hk,hat,hbo,htl,hr1⟩:=h
 exact(Ck w1 tb row1 l m p h1 hlen).mono fun e w' ⟨he,hl⟩=>⟨he,Ob.step h1 hk hat hbo htl hr1 hl⟩
end
theorem Y5{B:Nat}{w W:World}(h:Below B w W)(n:Nat):Below B w (W.drewN n):=⟨h.os,h.tape,h.output,h.size,h.block⟩
theorem Q6b{w1:World}{b:Nat}{x:TX}(h:w1.heap[b]? =some (.cells (Qg x).toArray 58 (0,0))):
  w1.cell? ⟨b,0,none⟩=some (.int .i64 x.1)/\w1.cell? ⟨b,1,none⟩=some (.int .i64 x.2.1)/\w1.cell? ⟨b,2,none⟩=some (.int .i64 x.2.2.1)/\w1.cell? ⟨b,3,none⟩=some (.int .i64 x.2.2.2):=by
 refine⟨?_,?_,?_,?_⟩<;>simp[World.cell?,h]
set_option maxRecDepth 4000 in
set_option maxHeartbeats 8000000 in
theorem Q8o(w:World)(tb:Nat)(row:Option Nat)(l:List TX)(m:Int)(x:TX)(h:Zs R oo w tb row l m)(hlen:l.length<=1000000):
  Calls Tryz.prog 79 #[.pointer (some ⟨tb,oo,none⟩),Gn x] w fun e w'=>e=.returned (.tuple #[])/\Y4 R oo tb row (Qt l x) (max m x.1) w w':=by
 have HS0:Sc (Qt l x=put (X4 l x.1) x):=⟨(X9x h.rising x).symm⟩
 have HSR:Sc (Qd (Qt l x)):=⟨G1 h.rising x⟩
 have HB0:=Q0 (Ob.start h (.cells (Qg x).toArray 58))
 have HLen:=Q0 hlen
 clear h hlen
 go_enter Tryz.func79,Tryz.ntmps79
 go_wp2_with fail
 refine(Y1a w _ tb row l m _ x.1 HB0.o).mono ?_
 rintro e w1 ⟨rfl,hb1⟩
 obtain⟨q0,_,_,_⟩:=Q6b (by obtain⟨_,_,_,_,hbo,_,_⟩:=hb1;rw[heap_alloc_new]at hbo;exact hbo)
 have HB1:=Q0 hb1
 clear hb1
 go_wp2_with fail
 refine(Y0z w w1 tb row l _ _ x.1 HB1.o HLen.o).mono ?_
 rintro e w2 ⟨rfl,hb2⟩
 clear q0
 have HL0:Sc ((X4 l x.1).length<=1000000):=⟨by have:=drop'_length l x.1;have:=HLen.o;omega⟩
 generalize X4 l x.1=L at hb2 HS0 HL0
 have HB2:=Q0 hb2
 obtain⟨q0,q1,q2,q3⟩:=Q6b (by obtain⟨_,_,_,_,hbo,_,_⟩:=hb2;rw[heap_alloc_new]at hbo;exact hbo)
 have HLT:=Q0 hb2.lt
 obtain⟨row1,ht1,hk1,hat1,hbo1,htl,hr1⟩:=hb2
 obtain⟨⟨v,hv,hc,hown⟩,hap,hr⟩:=ht1
 have HTL:=Q0 htl
 have HK1:=Q0 hk1
 have HR:=Q0 hr
 obtain⟨i0,hi,hz0,hz1,hz2⟩:=info_parts Q0b
 obtain⟨K,hK⟩:∃K,pos L x.1=K:=⟨_,rfl⟩
 have hKn:K<=L.length:=by rw[<-hK];exact Q4x L x.1
 have HK:=Q0 hK
 have HD:Sc (Qt l x=(L.take K++[x])++L.drop K):=⟨by
  rw[HS0.o]
  unfold put
  rw[hK,List.append_assoc];rfl⟩
 clear hr hap hK hk1 hat1 hbo1 htl hr1
 have hwl:w.heap.size<w2.heap.size:=HLT.o
 rcases hown.2 with ⟨rfl,h0⟩|⟨g,cap,cur,rfl,hb,hg,hn1,hcm1,hs,ht⟩
 ·obtain rfl:L=[]:=List.eq_nil_of_length_eq_zero h0
  obtain rfl:K=0:=by simpa using hKn
  obtain⟨hc1,_⟩:=hc.Xb
  have HC:=Q0 hc
  have HTk:Sc (Own Qg 4 58 0 w2 (.slice none 0 0) (([]:List TX).take 0)):=⟨Own.nil⟩
  have HT:Sc ((([]:List TX).take 0).length=0):=⟨rfl⟩
  have HE:Sc ((([]:List TX).drop 0).length=0):=⟨rfl⟩
  clear hc hown h0 hv hKn
  go_wp2_with fail
  go_loopg [4] 0 (fun kx s4 wr=>s4=.int .i64 0/\Sc (∃nd,wr=w2.drewN nd))
  case atStart=>exact⟨rfl,⟨0,rfl⟩⟩
  case round=>
   obtain⟨rfl,HDn⟩:=hrel
   obtain⟨nd,rfl⟩:=HDn.o
   go_wp2_with fail
   go_quiet (fail)
   go_wp2_with fail
   have SK:Sc (∀W,Below w2.heap.size w2 W->(fun W=>W.cell? ⟨tb,oo,none⟩=some (.slice none 0 0)/\W.cell? ⟨w.heap.size,0,none⟩=some (.int .i64 x.1)/\W.cell? ⟨w.heap.size,1,none⟩=some (.int .i64 x.2.1)/\W.cell? ⟨w.heap.size,2,none⟩=some (.int .i64 x.2.2.1)/\W.cell? ⟨w.heap.size,3,none⟩=some (.int .i64 x.2.2.2)) W):=⟨fun W hb=>⟨(hb.cell (World.block_lt_of_cell? _ _ hc1)).trans hc1,(hb.cell (World.block_lt_of_cell? _ _ q0)).trans q0,(hb.cell (World.block_lt_of_cell? _ _ q1)).trans q1,(hb.cell (World.block_lt_of_cell? _ _ q2)).trans q2,(hb.cell (World.block_lt_of_cell? _ _ q3)).trans q3⟩⟩
   generalize hwS:World.drewN _ _=wS
   have HBS:Sc (Below w2.heap.size w2 wS):=⟨by rw[<-hwS];first|exact Y5 (Below.refl _ _) _|exact Y5 (Y5 (Below.refl _ _) _) _⟩
   clear hwS
   have HBD:Sc (Below w2.heap.size w2 wS.drew):=⟨HBS.o.drew⟩
   have HBDA:Sc (∀o,Below w2.heap.size w2 (wS.drew.alloc o)):=⟨fun o=>HBS.o.drew.alloc HBS.o.size o⟩
   have HTk2:Sc (∀W,Below w2.heap.size w2 W->Own Qg 4 58 0 W (.slice none 0 0) (([]:List TX).take 0)):=⟨fun W hb=>HTk.o.below hb⟩
   have HZA:Sc (∀(W:World) (o:Obj),(W.alloc o).heap.size=W.heap.size+1):=⟨fun W o=>by simp⟩
   have HLE:Sc (∀(W:World) (o:Obj),W.heap.size<=(W.alloc o).heap.size):=⟨fun W o=>by simp⟩
   have HT1:Sc ((([]:List TX).take 0++[x]).length=0+1):=⟨by rw[List.length_append,HT.o]<;>rfl⟩
   have HF1:Sc (flat Qg (([]:List TX).take 0)++Qg x=flat Qg (([]:List TX).take 0++[x])):=⟨by rw[Qc,Qm]⟩
   have HA2:Sc (0+1<=maxLen):=⟨by unfold maxLen;omega⟩
   have HA3:Sc ((0+1)*32<=140737488355328):=⟨by omega⟩
   go_region_held3 (fun W=>W.cell? ⟨tb,oo,none⟩=some (.slice none 0 0)/\W.cell? ⟨w.heap.size,0,none⟩=some (.int .i64 x.1)/\W.cell? ⟨w.heap.size,1,none⟩=some (.int .i64 x.2.1)/\W.cell? ⟨w.heap.size,2,none⟩=some (.int .i64 x.2.2.1)/\W.cell? ⟨w.heap.size,3,none⟩=some (.int .i64 x.2.2.2)) (first|exact SK.o _ HBD.o|exact SK.o _ HBC.o|exact SK.o _ (HBDA.o _)|exact SK.o _ (HBC.o.alloc HBC.o.size _)|exact SK.o _ HBE.o)
    (first
     |(go_at_call 126;refine(Vp _ 0 _ (([]:List TX).take 0) (HTk2.o _ (by first|exact HBD.o|exact HBDA.o _)) (by rw[HT.o];omega)).mono ?_;rintro e wc ⟨vc,rfl,ho,hbc⟩;have HBC:Sc (Below w2.heap.size w2 wc):=⟨by first|exact HBD.o.trans (hbc.mono HBD.o.size)|exact(HBDA.o _).trans (hbc.mono (HBDA.o _).size)⟩;(first|(have hnb:wc.heap[wS.heap.size]? =some (.cells (Qg x).toArray 58 (0,0)):=(hbc.block _ (by simp)).trans (heap_alloc_new wS.drew _);have HNB:=Q0 hnb;clear hnb)|skip);have HOC:Sc (Own Qg 4 58 w2.heap.size wc vc (([]:List TX).take 0)):=⟨ho.mono (by first|exact HBD.o.size|exact(HBDA.o _).size)⟩;obtain⟨Ac,cc,rfl,_,_⟩:=ho.slice;rw[HT.o]at HOC ⊢;clear ho hbc)
     |(have hoa:=(HOC.o.rows HT.o).alloc (.cells (Qg x).toArray 58);have hna:=World.news_of_block (heap_alloc_new wc (.cells (Qg x).toArray 58));refine step_append_lies (wc.alloc (.cells (Qg x).toArray 58)) (by rfl) (.tmp 42) (.tmp 44) 31 (by rfl) w2.heap.size 58 i0 (.agg #[.int .i64 0,.int .i64 0,.int .i64 0,.int .i64 0]) 4 32 Tryz.underlying31 hi hz0 hz1 hz2 rfl (by decide) _ 0 (flat Qg (([]:List TX).take 0)) (by rfl) hoa ⟨wc.heap.size,0,none⟩ 1 1 (Qg x) (by rfl) (by rfl) hna (X8.one x) Nat.one_pos HA2.o HA3.o (Nat.le_trans HBC.o.size (HLE.o _ _)) _ (HZA.o _ _) ?_;intro ge ce we h1 h2 h3 h4;have HBE:Sc (Below w2.heap.size w2 we):=⟨(HBC.o.alloc HBC.o.size _).grown h2 (Nat.le_trans HBC.o.size (HLE.o _ _)) (fun k hk=>(HOC.o.lt k hk).1)⟩;have HOE:Sc (Own Qg 4 58 w2.heap.size we (.slice (some ⟨ge,0,none⟩) (0+1) ce) (([]:List TX).take 0++[x])):=⟨Own.Qv h1 HT1.o HF1.o⟩;clear h1 h2 h3 h4 hoa hna)
     |(have hna:=World.news_of_block HNB.o;refine step_append_lies wc (by rfl) (.tmp 42) (.tmp 44) 31 (by rfl) w2.heap.size 58 i0 (.agg #[.int .i64 0,.int .i64 0,.int .i64 0,.int .i64 0]) 4 32 Tryz.underlying31 hi hz0 hz1 hz2 rfl (by decide) _ 0 (flat Qg (([]:List TX).take 0)) (by rfl) (HOC.o.rows HT.o) ⟨wS.heap.size,0,none⟩ 1 1 (Qg x) (by rfl) (by rfl) hna (X8.one x) Nat.one_pos HA2.o HA3.o HBC.o.size _ rfl ?_;intro ge ce we h1 h2 h3 h4;have HBE:Sc (Below w2.heap.size w2 we):=⟨HBC.o.grown h2 HBC.o.size (fun k hk=>(HOC.o.lt k hk).1)⟩;have HOE:Sc (Own Qg 4 58 w2.heap.size we (.slice (some ⟨ge,0,none⟩) (0+1) ce) (([]:List TX).take 0++[x])):=⟨Own.Qv h1 HT1.o HF1.o⟩;clear h1 h2 h3 h4 hna))
   all_goals
    have hcwe:=HC.o.bel HBE.o
    obtain⟨hce,_⟩:=hcwe.Xb
    have hfe:=hcwe.Qr oo
    have HCE:=Q0 hcwe
    clear hcwe
    have HC4:=HCE
    have H2:=HBE
    have H1:Sc (Own Qg 4 58 w2.heap.size we (.slice (some ⟨ge,0,none⟩) (0+1) ce) (Qt l x)):=⟨by rw[HD.o];exact HOE.o⟩
    have hle3:0+1<=ce:=by obtain⟨_,_,he,hc',_⟩:=HOE.o.slice;injection he with _ _ he;rw[he];rw[HT1.o]at hc';exact hc'
    go_wp2_with (at_builtin;go_loud (refine Lib.wpList_append_run _ rfl (.tmp 47) (.tmp 53) 31 31 rfl _ _ rfl rfl _ _ (Gw _ _ _ _ _ Tryz.underlying31 hi _ _ _ hle3) ?_))
    go_wp2
    go_end0
    refine⟨rfl,?_⟩
    exact Y4.stored HC4.o (H1.o.mono (Nat.zero_le _)) HSR.o HTL.o (HK1.o.trans (Kp.Qi H2.o (fun q=>q=tb\/some q=row)) (fun q hq=> .inl hq)) (fun q hq=>Nat.le_trans (Nat.le_of_lt HLT.o) (H1.o.lt q hq).1)
 ·obtain⟨n,hn⟩:∃n,L.length=n:=⟨_,rfl⟩
  rw[hn]at hown hc hKn hn1
  obtain⟨hc1,_⟩:=hc.Xb
  have HC:=Q0 hc
  have HN:=Q0 hn
  have HO:=Q0 hown
  have hn6:n<=1000000:=by rw[<-hn];exact HL0.o
  have HTk:=Q0 (hown.take X8 hKn)
  have HT:Sc ((L.take K).length=K):=⟨by rw[List.length_take,hn];omega⟩
  have HE:Sc ((L.drop K).length=n - K):=⟨by rw[List.length_drop,hn]⟩
  have HTl0:Sc (∀j u,(flat Qg (L.drop K))[j]? =some u->w2.cell? ((⟨g,K*4,none⟩:Addr).add j)=some u):=⟨hown.tail X8 K⟩
  have n6:(n:Int)<=cap:=by omega
  have n7:(K:Int)<=cap:=by omega
  have n8:(K:Int)<=n:=by omega
  have n9:K<=cap:=by omega
  clear hown hc hv hn hs ht hb hg hcm1
  go_wp2_with fail
  go_loopg [4] K (fun kx s4 wr=>∃j:Nat,s4=.int .i64 j/\j<=K/\K - j<=kx/\Sc (∃nd,wr=w2.drewN nd))
  case atStart=>exact⟨0,rfl,by omega,by omega,⟨0,rfl⟩⟩
  case round=>
   obtain⟨j,rfl,hj,hgk,HDn⟩:=hrel
   obtain⟨nd,rfl⟩:=HDn.o
   by_cases hlt:j<K
   ·obtain⟨y,hy⟩:∃y,L[j]? =some y:=⟨_,List.getElem?_eq_getElem (by rw[HN.o];omega)⟩
    obtain⟨d0,_⟩:=HO.o.V6 hy
    have hp:y.1<x.1:=(J0 HR.o x.1 hy).1 (by rw[HK.o];exact hlt)
    have hjn:(j:Int)<n:=by omega
    clear hy
    go_wp2_with fail
    go_quiet (fail)
    go_wp2_with fail
    go_roundg (K - (j+1))
    case measure=>omega
    case rel=>exact⟨j+1,by go_num,by omega,Nat.le_refl _,⟨_,rfl⟩⟩
   ·obtain rfl:j=K:=by omega
    by_cases hlt2:j<n
    ·obtain⟨y,hy⟩:∃y,L[j]? =some y:=⟨_,List.getElem?_eq_getElem (by rw[HN.o];omega)⟩
     obtain⟨d0,_⟩:=HO.o.V6 hy
     have hp:¬y.1<x.1:=fun h=>by have:=(J0 HR.o x.1 hy).2 h;have:=HK.o;omega
     have hjn:(j:Int)<n:=by omega
     have hcap:¬cap=j:=by omega
     clear hy
     go_wp2_with fail
     go_quiet (fail)
     go_wp2_with fail
     have SK:Sc (∀W,Below w2.heap.size w2 W->(fun W=>W.cell? ⟨tb,oo,none⟩=some (.slice (some ⟨g,0,none⟩) n cap)/\W.cell? ⟨w.heap.size,0,none⟩=some (.int .i64 x.1)/\W.cell? ⟨w.heap.size,1,none⟩=some (.int .i64 x.2.1)/\W.cell? ⟨w.heap.size,2,none⟩=some (.int .i64 x.2.2.1)/\W.cell? ⟨w.heap.size,3,none⟩=some (.int .i64 x.2.2.2)) W):=⟨fun W hb=>⟨(hb.cell (World.block_lt_of_cell? _ _ hc1)).trans hc1,(hb.cell (World.block_lt_of_cell? _ _ q0)).trans q0,(hb.cell (World.block_lt_of_cell? _ _ q1)).trans q1,(hb.cell (World.block_lt_of_cell? _ _ q2)).trans q2,(hb.cell (World.block_lt_of_cell? _ _ q3)).trans q3⟩⟩
     generalize hwS:World.drewN _ _=wS
     have HBS:Sc (Below w2.heap.size w2 wS):=⟨by rw[<-hwS];first|exact Y5 (Below.refl _ _) _|exact Y5 (Y5 (Below.refl _ _) _) _⟩
     clear hwS
     have HBD:Sc (Below w2.heap.size w2 wS.drew):=⟨HBS.o.drew⟩
     have HBDA:Sc (∀o,Below w2.heap.size w2 (wS.drew.alloc o)):=⟨fun o=>HBS.o.drew.alloc HBS.o.size o⟩
     have HTk2:Sc (∀W,Below w2.heap.size w2 W->Own Qg 4 58 0 W (.slice (some ⟨g,0,none⟩) j cap) (L.take j)):=⟨fun W hb=>HTk.o.below hb⟩
     have HZA:Sc (∀(W:World) (o:Obj),(W.alloc o).heap.size=W.heap.size+1):=⟨fun W o=>by simp⟩
     have HLE:Sc (∀(W:World) (o:Obj),W.heap.size<=(W.alloc o).heap.size):=⟨fun W o=>by simp⟩
     have HT1:Sc ((L.take j++[x]).length=j+1):=⟨by rw[List.length_append,HT.o]<;>rfl⟩
     have HF1:Sc (flat Qg (L.take j)++Qg x=flat Qg (L.take j++[x])):=⟨by rw[Qc,Qm]⟩
     have HA2:Sc (j+1<=maxLen):=⟨by unfold maxLen;omega⟩
     have HA3:Sc ((j+1)*32<=140737488355328):=⟨by omega⟩
     go_region_held3 (fun W=>W.cell? ⟨tb,oo,none⟩=some (.slice (some ⟨g,0,none⟩) n cap)/\W.cell? ⟨w.heap.size,0,none⟩=some (.int .i64 x.1)/\W.cell? ⟨w.heap.size,1,none⟩=some (.int .i64 x.2.1)/\W.cell? ⟨w.heap.size,2,none⟩=some (.int .i64 x.2.2.1)/\W.cell? ⟨w.heap.size,3,none⟩=some (.int .i64 x.2.2.2)) (first|exact SK.o _ HBD.o|exact SK.o _ HBC.o|exact SK.o _ (HBDA.o _)|exact SK.o _ (HBC.o.alloc HBC.o.size _)|exact SK.o _ HBE.o)
      (first
       |(go_at_call 126;refine(Vp _ 0 _ (L.take j) (HTk2.o _ (by first|exact HBD.o|exact HBDA.o _)) (by rw[HT.o];omega)).mono ?_;rintro e wc ⟨vc,rfl,ho,hbc⟩;have HBC:Sc (Below w2.heap.size w2 wc):=⟨by first|exact HBD.o.trans (hbc.mono HBD.o.size)|exact(HBDA.o _).trans (hbc.mono (HBDA.o _).size)⟩;(first|(have hnb:wc.heap[wS.heap.size]? =some (.cells (Qg x).toArray 58 (0,0)):=(hbc.block _ (by simp)).trans (heap_alloc_new wS.drew _);have HNB:=Q0 hnb;clear hnb)|skip);have HOC:Sc (Own Qg 4 58 w2.heap.size wc vc (L.take j)):=⟨ho.mono (by first|exact HBD.o.size|exact(HBDA.o _).size)⟩;obtain⟨Ac,cc,rfl,_,_⟩:=ho.slice;rw[HT.o]at HOC ⊢;clear ho hbc)
       |(have hoa:=(HOC.o.rows HT.o).alloc (.cells (Qg x).toArray 58);have hna:=World.news_of_block (heap_alloc_new wc (.cells (Qg x).toArray 58));refine step_append_lies (wc.alloc (.cells (Qg x).toArray 58)) (by rfl) (.tmp 42) (.tmp 44) 31 (by rfl) w2.heap.size 58 i0 (.agg #[.int .i64 0,.int .i64 0,.int .i64 0,.int .i64 0]) 4 32 Tryz.underlying31 hi hz0 hz1 hz2 rfl (by decide) _ j (flat Qg (L.take j)) (by rfl) hoa ⟨wc.heap.size,0,none⟩ 1 1 (Qg x) (by rfl) (by rfl) hna (X8.one x) Nat.one_pos HA2.o HA3.o (Nat.le_trans HBC.o.size (HLE.o _ _)) _ (HZA.o _ _) ?_;intro ge ce we h1 h2 h3 h4;have HBE:Sc (Below w2.heap.size w2 we):=⟨(HBC.o.alloc HBC.o.size _).grown h2 (Nat.le_trans HBC.o.size (HLE.o _ _)) (fun k hk=>(HOC.o.lt k hk).1)⟩;have HOE:Sc (Own Qg 4 58 w2.heap.size we (.slice (some ⟨ge,0,none⟩) (j+1) ce) (L.take j++[x])):=⟨Own.Qv h1 HT1.o HF1.o⟩;clear h1 h2 h3 h4 hoa hna)
       |(have hna:=World.news_of_block HNB.o;refine step_append_lies wc (by rfl) (.tmp 42) (.tmp 44) 31 (by rfl) w2.heap.size 58 i0 (.agg #[.int .i64 0,.int .i64 0,.int .i64 0,.int .i64 0]) 4 32 Tryz.underlying31 hi hz0 hz1 hz2 rfl (by decide) _ j (flat Qg (L.take j)) (by rfl) (HOC.o.rows HT.o) ⟨wS.heap.size,0,none⟩ 1 1 (Qg x) (by rfl) (by rfl) hna (X8.one x) Nat.one_pos HA2.o HA3.o HBC.o.size _ rfl ?_;intro ge ce we h1 h2 h3 h4;have HBE:Sc (Below w2.heap.size w2 we):=⟨HBC.o.grown h2 HBC.o.size (fun k hk=>(HOC.o.lt k hk).1)⟩;have HOE:Sc (Own Qg 4 58 w2.heap.size we (.slice (some ⟨ge,0,none⟩) (j+1) ce) (L.take j++[x])):=⟨Own.Qv h1 HT1.o HF1.o⟩;clear h1 h2 h3 h4 hna))
     all_goals
      have hcwe:=HC.o.bel HBE.o
      obtain⟨hce,_⟩:=hcwe.Xb
      have hfe:=hcwe.Qr oo
      have HCE:=Q0 hcwe
      clear hcwe
      go_wp2_with (at_builtin;go_loud (refine wpList_append_own_at _ rfl (.tmp 47) (.tmp 53) 31 rfl w2.heap.size 58 i0 (.agg #[.int .i64 0,.int .i64 0,.int .i64 0,.int .i64 0]) 4 32 Tryz.underlying31 hi hz0 hz1 hz2 rfl (by decide) _ (j+1) (flat Qg (L.take j++[x])) rfl (HOE.o.rows HT1.o) ⟨g,j*4,none⟩ (n - j) (cap - j) (flat Qg (L.drop j)) rfl ?c1 (Xo HBE.o HTl0.o) (X8.Xk _) ?c3 ?c4 ?c5 ?_))
      case c1=>rw[X8.Qp,HE.o]<;>omega
      case c3=>unfold maxLen;omega
      case c4=>omega
      case c5=>exact HBE.o.size
      intro v4 w4 h1 h2 h3 h4
      have H1:Sc (Own Qg 4 58 w2.heap.size w4 v4 (Qt l x)):=⟨Own.Qv h1 (by rw[HD.o,List.length_append,HT1.o,HE.o]<;>omega) (by rw[HD.o];simp only[Qc])⟩
      have H2:Sc (Below w2.heap.size w2 w4):=⟨HBE.o.grown h2 HBE.o.size (fun k hk=>(HOE.o.lt k hk).1)⟩
      have hcw4:=HC.o.bel H2.o
      obtain⟨hc4,_⟩:=hcw4.Xb
      have hf4:=hcw4.Qr oo
      have HC4:=Q0 hcw4
      obtain⟨A4,n4,c4,rfl⟩:=H1.o.slice3
      clear h1 h2 h3 h4 hcw4
      go_wp2
      go_end0
      refine⟨rfl,?_⟩
      exact Y4.stored HC4.o (H1.o.mono (Nat.zero_le _)) HSR.o HTL.o (HK1.o.trans (Kp.Qi H2.o (fun q=>q=tb\/some q=row)) (fun q hq=> .inl hq)) (fun q hq=>Nat.le_trans (Nat.le_of_lt HLT.o) (H1.o.lt q hq).1)
    ·obtain rfl:j=n:=by omega
     have hz:L.drop j=[]:=List.drop_eq_nil_of_le (by rw[HN.o];exact Nat.le_refl _)
     by_cases hcap:cap=j
     ·subst hcap
      have HTl:Sc (∀t u,(flat Qg (L.drop cap))[t]? =some u->w2.cell? ((⟨g,0,none⟩:Addr).add t)=some u):=⟨fun t u ht=>by rw[hz]at ht;cases ht⟩
      clear hz HTl0
      go_wp2_with fail
      go_quiet (fail)
      go_wp2_with fail
      have SK:Sc (∀W,Below w2.heap.size w2 W->(fun W=>W.cell? ⟨tb,oo,none⟩=some (.slice (some ⟨g,0,none⟩) cap cap)/\W.cell? ⟨w.heap.size,0,none⟩=some (.int .i64 x.1)/\W.cell? ⟨w.heap.size,1,none⟩=some (.int .i64 x.2.1)/\W.cell? ⟨w.heap.size,2,none⟩=some (.int .i64 x.2.2.1)/\W.cell? ⟨w.heap.size,3,none⟩=some (.int .i64 x.2.2.2)) W):=⟨fun W hb=>⟨(hb.cell (World.block_lt_of_cell? _ _ hc1)).trans hc1,(hb.cell (World.block_lt_of_cell? _ _ q0)).trans q0,(hb.cell (World.block_lt_of_cell? _ _ q1)).trans q1,(hb.cell (World.block_lt_of_cell? _ _ q2)).trans q2,(hb.cell (World.block_lt_of_cell? _ _ q3)).trans q3⟩⟩
      generalize hwS:World.drewN _ _=wS
      have HBS:Sc (Below w2.heap.size w2 wS):=⟨by rw[<-hwS];first|exact Y5 (Below.refl _ _) _|exact Y5 (Y5 (Below.refl _ _) _) _⟩
      clear hwS
      have HBD:Sc (Below w2.heap.size w2 wS.drew):=⟨HBS.o.drew⟩
      have HBDA:Sc (∀o,Below w2.heap.size w2 (wS.drew.alloc o)):=⟨fun o=>HBS.o.drew.alloc HBS.o.size o⟩
      have HTk2:Sc (∀W,Below w2.heap.size w2 W->Own Qg 4 58 0 W (.slice (some ⟨g,0,none⟩) cap cap) (L.take cap)):=⟨fun W hb=>HTk.o.below hb⟩
      have HZA:Sc (∀(W:World) (o:Obj),(W.alloc o).heap.size=W.heap.size+1):=⟨fun W o=>by simp⟩
      have HLE:Sc (∀(W:World) (o:Obj),W.heap.size<=(W.alloc o).heap.size):=⟨fun W o=>by simp⟩
      have HT1:Sc ((L.take cap++[x]).length=cap+1):=⟨by rw[List.length_append,HT.o]<;>rfl⟩
      have HF1:Sc (flat Qg (L.take cap)++Qg x=flat Qg (L.take cap++[x])):=⟨by rw[Qc,Qm]⟩
      have HA2:Sc (cap+1<=maxLen):=⟨by unfold maxLen;omega⟩
      have HA3:Sc ((cap+1)*32<=140737488355328):=⟨by omega⟩
      go_region_held3 (fun W=>W.cell? ⟨tb,oo,none⟩=some (.slice (some ⟨g,0,none⟩) cap cap)/\W.cell? ⟨w.heap.size,0,none⟩=some (.int .i64 x.1)/\W.cell? ⟨w.heap.size,1,none⟩=some (.int .i64 x.2.1)/\W.cell? ⟨w.heap.size,2,none⟩=some (.int .i64 x.2.2.1)/\W.cell? ⟨w.heap.size,3,none⟩=some (.int .i64 x.2.2.2)) (first|exact SK.o _ HBD.o|exact SK.o _ HBC.o|exact SK.o _ (HBDA.o _)|exact SK.o _ (HBC.o.alloc HBC.o.size _)|exact SK.o _ HBE.o)
       (first
        |(go_at_call 126;refine(Vp _ 0 _ (L.take cap) (HTk2.o _ (by first|exact HBD.o|exact HBDA.o _)) (by rw[HT.o];omega)).mono ?_;rintro e wc ⟨vc,rfl,ho,hbc⟩;have HBC:Sc (Below w2.heap.size w2 wc):=⟨by first|exact HBD.o.trans (hbc.mono HBD.o.size)|exact(HBDA.o _).trans (hbc.mono (HBDA.o _).size)⟩;(first|(have hnb:wc.heap[wS.heap.size]? =some (.cells (Qg x).toArray 58 (0,0)):=(hbc.block _ (by simp)).trans (heap_alloc_new wS.drew _);have HNB:=Q0 hnb;clear hnb)|skip);have HOC:Sc (Own Qg 4 58 w2.heap.size wc vc (L.take cap)):=⟨ho.mono (by first|exact HBD.o.size|exact(HBDA.o _).size)⟩;obtain⟨Ac,cc,rfl,_,_⟩:=ho.slice;rw[HT.o]at HOC ⊢;clear ho hbc)
        |(have hoa:=(HOC.o.rows HT.o).alloc (.cells (Qg x).toArray 58);have hna:=World.news_of_block (heap_alloc_new wc (.cells (Qg x).toArray 58));refine step_append_lies (wc.alloc (.cells (Qg x).toArray 58)) (by rfl) (.tmp 42) (.tmp 44) 31 (by rfl) w2.heap.size 58 i0 (.agg #[.int .i64 0,.int .i64 0,.int .i64 0,.int .i64 0]) 4 32 Tryz.underlying31 hi hz0 hz1 hz2 rfl (by decide) _ cap (flat Qg (L.take cap)) (by rfl) hoa ⟨wc.heap.size,0,none⟩ 1 1 (Qg x) (by rfl) (by rfl) hna (X8.one x) Nat.one_pos HA2.o HA3.o (Nat.le_trans HBC.o.size (HLE.o _ _)) _ (HZA.o _ _) ?_;intro ge ce we h1 h2 h3 h4;have HBE:Sc (Below w2.heap.size w2 we):=⟨(HBC.o.alloc HBC.o.size _).grown h2 (Nat.le_trans HBC.o.size (HLE.o _ _)) (fun k hk=>(HOC.o.lt k hk).1)⟩;have HOE:Sc (Own Qg 4 58 w2.heap.size we (.slice (some ⟨ge,0,none⟩) (cap+1) ce) (L.take cap++[x])):=⟨Own.Qv h1 HT1.o HF1.o⟩;clear h1 h2 h3 h4 hoa hna)
        |(have hna:=World.news_of_block HNB.o;refine step_append_lies wc (by rfl) (.tmp 42) (.tmp 44) 31 (by rfl) w2.heap.size 58 i0 (.agg #[.int .i64 0,.int .i64 0,.int .i64 0,.int .i64 0]) 4 32 Tryz.underlying31 hi hz0 hz1 hz2 rfl (by decide) _ cap (flat Qg (L.take cap)) (by rfl) (HOC.o.rows HT.o) ⟨wS.heap.size,0,none⟩ 1 1 (Qg x) (by rfl) (by rfl) hna (X8.one x) Nat.one_pos HA2.o HA3.o HBC.o.size _ rfl ?_;intro ge ce we h1 h2 h3 h4;have HBE:Sc (Below w2.heap.size w2 we):=⟨HBC.o.grown h2 HBC.o.size (fun k hk=>(HOC.o.lt k hk).1)⟩;have HOE:Sc (Own Qg 4 58 w2.heap.size we (.slice (some ⟨ge,0,none⟩) (cap+1) ce) (L.take cap++[x])):=⟨Own.Qv h1 HT1.o HF1.o⟩;clear h1 h2 h3 h4 hna))
      all_goals
       have hcwe:=HC.o.bel HBE.o
       obtain⟨hce,_⟩:=hcwe.Xb
       have hfe:=hcwe.Qr oo
       have HCE:=Q0 hcwe
       clear hcwe
       go_wp2_with (at_builtin;go_loud (refine wpList_append_own_at _ rfl (.tmp 47) (.tmp 53) 31 rfl w2.heap.size 58 i0 (.agg #[.int .i64 0,.int .i64 0,.int .i64 0,.int .i64 0]) 4 32 Tryz.underlying31 hi hz0 hz1 hz2 rfl (by decide) _ (cap+1) (flat Qg (L.take cap++[x])) rfl (HOE.o.rows HT1.o) ⟨g,0,none⟩ 0 0 (flat Qg (L.drop cap)) rfl ?c1 (Xo HBE.o HTl.o) (X8.Xk _) ?c3 ?c4 ?c5 ?_))
       case c1=>rw[X8.Qp,HE.o]<;>omega
       case c3=>unfold maxLen;omega
       case c4=>omega
       case c5=>exact HBE.o.size
       intro v4 w4 h1 h2 h3 h4
       have H1:Sc (Own Qg 4 58 w2.heap.size w4 v4 (Qt l x)):=⟨Own.Qv h1 (by rw[HD.o,List.length_append,HT1.o,HE.o]<;>omega) (by rw[HD.o];simp only[Qc])⟩
       have H2:Sc (Below w2.heap.size w2 w4):=⟨HBE.o.grown h2 HBE.o.size (fun k hk=>(HOE.o.lt k hk).1)⟩
       have hcw4:=HC.o.bel H2.o
       obtain⟨hc4,_⟩:=hcw4.Xb
       have hf4:=hcw4.Qr oo
       have HC4:=Q0 hcw4
       obtain⟨A4,n4,c4,rfl⟩:=H1.o.slice3
       clear h1 h2 h3 h4 hcw4
       go_wp2
       go_end0
       refine⟨rfl,?_⟩
       exact Y4.stored HC4.o (H1.o.mono (Nat.zero_le _)) HSR.o HTL.o (HK1.o.trans (Kp.Qi H2.o (fun q=>q=tb\/some q=row)) (fun q hq=> .inl hq)) (fun q hq=>Nat.le_trans (Nat.le_of_lt HLT.o) (H1.o.lt q hq).1)
     ·have HTl:Sc (∀t u,(flat Qg (L.drop j))[t]? =some u->w2.cell? ((⟨g,j*4,none⟩:Addr).add t)=some u):=⟨fun t u ht=>by rw[hz]at ht;cases ht⟩
      clear hz
      go_wp2_with fail
      go_quiet (fail)
      go_wp2_with fail
      have SK:Sc (∀W,Below w2.heap.size w2 W->(fun W=>W.cell? ⟨tb,oo,none⟩=some (.slice (some ⟨g,0,none⟩) j cap)/\W.cell? ⟨w.heap.size,0,none⟩=some (.int .i64 x.1)/\W.cell? ⟨w.heap.size,1,none⟩=some (.int .i64 x.2.1)/\W.cell? ⟨w.heap.size,2,none⟩=some (.int .i64 x.2.2.1)/\W.cell? ⟨w.heap.size,3,none⟩=some (.int .i64 x.2.2.2)) W):=⟨fun W hb=>⟨(hb.cell (World.block_lt_of_cell? _ _ hc1)).trans hc1,(hb.cell (World.block_lt_of_cell? _ _ q0)).trans q0,(hb.cell (World.block_lt_of_cell? _ _ q1)).trans q1,(hb.cell (World.block_lt_of_cell? _ _ q2)).trans q2,(hb.cell (World.block_lt_of_cell? _ _ q3)).trans q3⟩⟩
      generalize hwS:World.drewN _ _=wS
      have HBS:Sc (Below w2.heap.size w2 wS):=⟨by rw[<-hwS];first|exact Y5 (Below.refl _ _) _|exact Y5 (Y5 (Below.refl _ _) _) _⟩
      clear hwS
      have HBD:Sc (Below w2.heap.size w2 wS.drew):=⟨HBS.o.drew⟩
      have HBDA:Sc (∀o,Below w2.heap.size w2 (wS.drew.alloc o)):=⟨fun o=>HBS.o.drew.alloc HBS.o.size o⟩
      have HTk2:Sc (∀W,Below w2.heap.size w2 W->Own Qg 4 58 0 W (.slice (some ⟨g,0,none⟩) j cap) (L.take j)):=⟨fun W hb=>HTk.o.below hb⟩
      have HZA:Sc (∀(W:World) (o:Obj),(W.alloc o).heap.size=W.heap.size+1):=⟨fun W o=>by simp⟩
      have HLE:Sc (∀(W:World) (o:Obj),W.heap.size<=(W.alloc o).heap.size):=⟨fun W o=>by simp⟩
      have HT1:Sc ((L.take j++[x]).length=j+1):=⟨by rw[List.length_append,HT.o]<;>rfl⟩
      have HF1:Sc (flat Qg (L.take j)++Qg x=flat Qg (L.take j++[x])):=⟨by rw[Qc,Qm]⟩
      have HA2:Sc (j+1<=maxLen):=⟨by unfold maxLen;omega⟩
      have HA3:Sc ((j+1)*32<=140737488355328):=⟨by omega⟩
      go_region_held3 (fun W=>W.cell? ⟨tb,oo,none⟩=some (.slice (some ⟨g,0,none⟩) j cap)/\W.cell? ⟨w.heap.size,0,none⟩=some (.int .i64 x.1)/\W.cell? ⟨w.heap.size,1,none⟩=some (.int .i64 x.2.1)/\W.cell? ⟨w.heap.size,2,none⟩=some (.int .i64 x.2.2.1)/\W.cell? ⟨w.heap.size,3,none⟩=some (.int .i64 x.2.2.2)) (first|exact SK.o _ HBD.o|exact SK.o _ HBC.o|exact SK.o _ (HBDA.o _)|exact SK.o _ (HBC.o.alloc HBC.o.size _)|exact SK.o _ HBE.o)
       (first
        |(go_at_call 126;refine(Vp _ 0 _ (L.take j) (HTk2.o _ (by first|exact HBD.o|exact HBDA.o _)) (by rw[HT.o];omega)).mono ?_;rintro e wc ⟨vc,rfl,ho,hbc⟩;have HBC:Sc (Below w2.heap.size w2 wc):=⟨by first|exact HBD.o.trans (hbc.mono HBD.o.size)|exact(HBDA.o _).trans (hbc.mono (HBDA.o _).size)⟩;(first|(have hnb:wc.heap[wS.heap.size]? =some (.cells (Qg x).toArray 58 (0,0)):=(hbc.block _ (by simp)).trans (heap_alloc_new wS.drew _);have HNB:=Q0 hnb;clear hnb)|skip);have HOC:Sc (Own Qg 4 58 w2.heap.size wc vc (L.take j)):=⟨ho.mono (by first|exact HBD.o.size|exact(HBDA.o _).size)⟩;obtain⟨Ac,cc,rfl,_,_⟩:=ho.slice;rw[HT.o]at HOC ⊢;clear ho hbc)
        |(have hoa:=(HOC.o.rows HT.o).alloc (.cells (Qg x).toArray 58);have hna:=World.news_of_block (heap_alloc_new wc (.cells (Qg x).toArray 58));refine step_append_lies (wc.alloc (.cells (Qg x).toArray 58)) (by rfl) (.tmp 42) (.tmp 44) 31 (by rfl) w2.heap.size 58 i0 (.agg #[.int .i64 0,.int .i64 0,.int .i64 0,.int .i64 0]) 4 32 Tryz.underlying31 hi hz0 hz1 hz2 rfl (by decide) _ j (flat Qg (L.take j)) (by rfl) hoa ⟨wc.heap.size,0,none⟩ 1 1 (Qg x) (by rfl) (by rfl) hna (X8.one x) Nat.one_pos HA2.o HA3.o (Nat.le_trans HBC.o.size (HLE.o _ _)) _ (HZA.o _ _) ?_;intro ge ce we h1 h2 h3 h4;have HBE:Sc (Below w2.heap.size w2 we):=⟨(HBC.o.alloc HBC.o.size _).grown h2 (Nat.le_trans HBC.o.size (HLE.o _ _)) (fun k hk=>(HOC.o.lt k hk).1)⟩;have HOE:Sc (Own Qg 4 58 w2.heap.size we (.slice (some ⟨ge,0,none⟩) (j+1) ce) (L.take j++[x])):=⟨Own.Qv h1 HT1.o HF1.o⟩;clear h1 h2 h3 h4 hoa hna)
        |(have hna:=World.news_of_block HNB.o;refine step_append_lies wc (by rfl) (.tmp 42) (.tmp 44) 31 (by rfl) w2.heap.size 58 i0 (.agg #[.int .i64 0,.int .i64 0,.int .i64 0,.int .i64 0]) 4 32 Tryz.underlying31 hi hz0 hz1 hz2 rfl (by decide) _ j (flat Qg (L.take j)) (by rfl) (HOC.o.rows HT.o) ⟨wS.heap.size,0,none⟩ 1 1 (Qg x) (by rfl) (by rfl) hna (X8.one x) Nat.one_pos HA2.o HA3.o HBC.o.size _ rfl ?_;intro ge ce we h1 h2 h3 h4;have HBE:Sc (Below w2.heap.size w2 we):=⟨HBC.o.grown h2 HBC.o.size (fun k hk=>(HOC.o.lt k hk).1)⟩;have HOE:Sc (Own Qg 4 58 w2.heap.size we (.slice (some ⟨ge,0,none⟩) (j+1) ce) (L.take j++[x])):=⟨Own.Qv h1 HT1.o HF1.o⟩;clear h1 h2 h3 h4 hna))
      all_goals
       have hcwe:=HC.o.bel HBE.o
       obtain⟨hce,_⟩:=hcwe.Xb
       have hfe:=hcwe.Qr oo
       have HCE:=Q0 hcwe
       clear hcwe
       go_wp2_with (at_builtin;go_loud (refine wpList_append_own_at _ rfl (.tmp 47) (.tmp 53) 31 rfl w2.heap.size 58 i0 (.agg #[.int .i64 0,.int .i64 0,.int .i64 0,.int .i64 0]) 4 32 Tryz.underlying31 hi hz0 hz1 hz2 rfl (by decide) _ (j+1) (flat Qg (L.take j++[x])) rfl (HOE.o.rows HT1.o) ⟨g,j*4,none⟩ 0 (cap - j) (flat Qg (L.drop j)) rfl ?c1 (Xo HBE.o HTl.o) (X8.Xk _) ?c3 ?c4 ?c5 ?_))
       case c1=>rw[X8.Qp,HE.o]<;>omega
       case c3=>unfold maxLen;omega
       case c4=>omega
       case c5=>exact HBE.o.size
       intro v4 w4 h1 h2 h3 h4
       have H1:Sc (Own Qg 4 58 w2.heap.size w4 v4 (Qt l x)):=⟨Own.Qv h1 (by rw[HD.o,List.length_append,HT1.o,HE.o]<;>omega) (by rw[HD.o];simp only[Qc])⟩
       have H2:Sc (Below w2.heap.size w2 w4):=⟨HBE.o.grown h2 HBE.o.size (fun k hk=>(HOE.o.lt k hk).1)⟩
       have hcw4:=HC.o.bel H2.o
       obtain⟨hc4,_⟩:=hcw4.Xb
       have hf4:=hcw4.Qr oo
       have HC4:=Q0 hcw4
       obtain⟨A4,n4,c4,rfl⟩:=H1.o.slice3
       clear h1 h2 h3 h4 hcw4
       go_wp2
       go_end0
       refine⟨rfl,?_⟩
       exact Y4.stored HC4.o (H1.o.mono (Nat.zero_le _)) HSR.o HTL.o (HK1.o.trans (Kp.Qi H2.o (fun q=>q=tb\/some q=row)) (fun q hq=> .inl hq)) (fun q hq=>Nat.le_trans (Nat.le_of_lt HLT.o) (H1.o.lt q hq).1)
end
end Go.Proofs.YtoapihepdallbaaGreatDoor
