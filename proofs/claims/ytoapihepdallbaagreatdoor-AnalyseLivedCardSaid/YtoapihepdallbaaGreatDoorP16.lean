import Derived.Test.YtoapihepdallbaaGreatDoorP10
import Derived.Test.YtoapihepdallbaaGreatDoorP11
import Derived.Test.YtoapihepdallbaaGreatDoorP13
import Derived.Test.YtoapihepdallbaaGreatDoorP14
import Derived.Test.YtoapihepdallbaaGreatDoorP15
namespace Go.Proofs.YtoapihepdallbaaGreatDoor
open Go.RowKit
set_option maxRecDepth 10000 in
set_option maxHeartbeats 4000000 in
theorem X5c(w:World)(kind txn page prev next key:Int)(had has:Bool)(old new:Int)(h:kind<1\/10<kind):Calls Tryz.prog 73 #[Yg ⟨kind,txn,page,prev,next,key,had,has,old,new⟩] w fun e w'=>e=.returned (.bool (Qq ⟨kind,txn,page,prev,next,key,had,has,old,new⟩))/\Below w.heap.size w w':=by
 have HB:Sc (Below w.heap.size w (w.alloc (.cells (Qe ⟨kind,txn,page,prev,next,key,had,has,old,new⟩) 49))):=⟨Q3 (Below.refl _ _) _⟩
 have h0:inR kind 1 10=false:=by unfold inR;rw[<-Bool.decide_and];exact decide_eq_false (by omega)
 have h1:inR kind 1 6=false:=by unfold inR;rw[<-Bool.decide_and];exact decide_eq_false (by omega)
 have HG:Sc (Qq ⟨kind,txn,page,prev,next,key,had,has,old,new⟩=false):=⟨by unfold Qq;simp[h0]⟩
 rw[HG.o]
 have b2:=Ql (show kind≠2 by omega)
 have b3:=Ql (show kind≠3 by omega)
 have b8:=Ql (show kind≠8 by omega)
 have b9:=Ql (show kind≠9 by omega)
 clear h
 go_enter Tryz.func73,Tryz.ntmps73
 go_wp2_with (go_at_call 120;first|(refine(Q4 _ (by assumption)).mono ?_;rintro e w' ⟨rfl,rfl⟩)|(refine(Q4 _ (show _=true by decide)).mono ?_;rintro e w' ⟨rfl,rfl⟩)|(refine(Q4 _ (show _=false by decide)).mono ?_;rintro e w' ⟨rfl,rfl⟩))
 go_ret
 exact⟨rfl,HB.o⟩
theorem Uy(w:World)(r:Q9):Calls Tryz.prog 73 #[Yg r] w fun e w'=>e=.returned (.bool (Qq r))/\Below w.heap.size w w':=by
 obtain⟨kind,txn,page,prev,next,key,had,has,old,new⟩:=r
 by_cases h:kind<1\/10<kind
 ·exact X5c w kind txn page prev next key had has old new h
 ·have hk:kind=1\/kind=2\/kind=3\/kind=4\/kind=5\/kind=6\/kind=7\/kind=8\/kind=9\/kind=10:=by omega
  rcases hk with rfl|rfl|rfl|rfl|rfl|rfl|rfl|rfl|rfl|rfl
  ·exact X8u w txn page prev next key had has old new
  ·exact X8v w txn page prev next key had has old new
  ·exact X8w w txn page prev next key had has old new
  ·exact X8x w txn page prev next key had has old new
  ·exact X8y w txn page prev next key had has old new
  ·exact X8z w txn page prev next key had has old new
  ·exact X9a w txn page prev next key had has old new
  ·exact X9b w txn page prev next key had has old new
  ·exact X9c w txn page prev next key had has old new
  ·exact X5b w txn page prev next key had has old new
section
set_option maxHeartbeats 4000000
set_option maxRecDepth 4000
def O8(lb:Nat)(row:Option Nat)(L:List Q9)(bs:Int)(w w':World):Prop:=
 ∃row',G4 w' lb row' L bs/\Kp (fun q=>q=lb\/some q=row) w w'/\(row'=row\/∃q,row'=some q/\w.heap.size<=q)
theorem O8.same{lb:Nat}{row:Option Nat}{L:List Q9}{bs:Int}{w w':World}(h:G4 w lb row L bs)(hb:Below w.heap.size w w'):O8 lb row L bs w w':=⟨row,h.bel hb,Kp.Qi hb _,.inl rfl⟩
theorem O8.bel{lb:Nat}{row:Option Nat}{L:List Q9}{bs:Int}{w w1 w2:World}(h:O8 lb row L bs w w1)(hb:Below w1.heap.size w1 w2):O8 lb row L bs w w2:=by
 obtain⟨row',hl,hk,hat⟩:=h
 exact⟨row',hl.bel hb,hk.trans (Kp.Qi hb (fun _=>False)) (fun _ h=>h.elim),hat⟩
theorem G4.append{w W w2:World}{lb g cap s c n:Nat}{row:Option Nat}{dp A:Option Addr}{v:Value}{L:List Q9}{r:Q9}{bs:Int}(hb:Below w.heap.size w W)(hlt:lb<w.heap.size)
  (hc:W.heap[lb]? =some (.cells #[.pointer dp,.int .i64 1,.int .i64 29,.int .i64 bs,.int .i64 1,.slice A s c,.int .i64 bs] 77 (0,0))) (hv:∀q,v.ownBlock=some q->w.heap.size<=q) (hn:n=L.length+1)
  (hown:w2.ownsRow 0 49 10 (.slice (some ⟨g,0,none⟩) n cap) n (flat Xq L++Xq r)) (hg:W.grownBy w2 v.ownBlock) (hat:v.ownBlock=some g\/W.heap.size<=g):
  w2.heap[lb]? =some (.cells #[.pointer dp,.int .i64 1,.int .i64 29,.int .i64 bs,.int .i64 1,.slice A s c,.int .i64 bs] 77 (0,0))/\
   O8 lb row (L++[r]) bs w (w2.setCell ⟨lb,5,none⟩ (.slice (some ⟨g,0,none⟩) n cap)):=by
 subst hn
 have hc2:w2.heap[lb]? =some (.cells #[.pointer dp,.int .i64 1,.int .i64 29,.int .i64 bs,.int .i64 1,.slice A s c,.int .i64 bs] 77 (0,0)):=(hg.block lb (Q6 hc) (fun he=>by have:=hv lb he.symm;omega)).trans hc
 have hgf:w.heap.size<=g:=by
  rcases hat with h|h
  ·exact hv g h
  ·have:=hb.size;omega
 have hne:g≠lb:=by omega
 have ho:Own Xq 10 49 0 w2 (.slice (some ⟨g,0,none⟩) (L.length+1) cap) (L++[r]):=Own.Qv hown (by simp) (by rw[Qc,Qm])
 refine⟨hc2,some g,⟨⟨dp,some ⟨g,0,none⟩,L.length+1,cap,rfl,?_,ho.kp (Kp.setCell w2 _ _) (fun q hq he=> ?_)⟩,fun he=>hne (by injection he)⟩,?_,.inr ⟨g,rfl,hgf⟩⟩
 ·rw[Qn hc2 5 _];rfl
 ·injection hq with hq;exact hne (hq.trans he)
 ·exact(((Kp.Qi hb (fun q=>q=lb\/some q=row)).trans (Kp.Zl hg) (fun q hq=> .inr (hv q hq.symm)))).trans (Kp.setCell w2 ⟨lb,5,none⟩ _) (fun q hq=> .inl (.inl hq))
theorem X6a(w:World)(dp:Option Addr)(bs:Int):
  Calls Tryz.prog 23 #[.pointer dp,.int .i64 1,.int .i64 29,.int .i64 bs,.int .i64 1] w fun e w'=>e=.returned (.pointer (some ⟨w.heap.size,0,none⟩))/\G4 w' w.heap.size none [] bs/\Below w.heap.size w w':=by
 go_enter Tryz.func23,Tryz.ntmps23
 go_wp2
 go_ret
 exact⟨rfl,⟨⟨dp,none,0,0,rfl,heap_alloc_new w _,Own.nil⟩,by simp⟩,Q3 (Below.refl _ _) _⟩
def Q3o(lb:Nat)(row:Option Nat)(L:List Q9)(bs:Int)(r:Q9)(w:World)(e:Ending)(w':World):Prop:=
 if Qq r=true then e=.returned (.tuple #[.int .i64 (bs+((L.length:Int)+1)),.int .i64 0])/\O8 lb row (L++[r]) bs w w' else e=.returned (.tuple #[.int .i64 0,.int .i64 102])/\O8 lb row L bs w w'
theorem Q3o.yes{lb:Nat}{row:Option Nat}{L:List Q9}{bs:Int}{r:Q9}{w w':World}{e:Ending}(h:Qq r=true)(h':e=.returned (.tuple #[.int .i64 (bs+((L.length:Int)+1)),.int .i64 0])/\O8 lb row (L++[r]) bs w w'):Q3o lb row L bs r w e w':=by
 unfold Q3o;rw[if_pos h];exact h'
theorem Q3o.no{lb:Nat}{row:Option Nat}{L:List Q9}{bs:Int}{r:Q9}{w w':World}{e:Ending}(h:Qq r=false)(h':e=.returned (.tuple #[.int .i64 0,.int .i64 102])/\O8 lb row L bs w w'):Q3o lb row L bs r w e w':=by
 unfold Q3o;rw[if_neg (by rw[h];simp)];exact h'
theorem Dt(w:World)(lb:Nat)(row:Option Nat)(L:List Q9)(bs:Int)(r:Q9)(h:G4 w lb row L bs)(hlen:L.length<=172)(h0:0<=bs)(h1:bs<=1000000):
  Calls Tryz.prog 26 #[.pointer (some ⟨lb,0,none⟩),Yg r] w (Q3o lb row L bs r w):=by
 obtain⟨i0,hi,hz0,hz1,hz2⟩:=info_parts Ep
 have HB1:Sc (Below w.heap.size w (w.alloc (.cells (Qe r) 49))):=⟨Q3 (Below.refl _ _) _⟩
 have HX:=Q0 h
 have HL1:=Q0 (h.bel HB1.o)
 have HZ1:=Q0 (heap_alloc_new w (.cells (Qe r) 49))
 obtain⟨w1,hw1⟩:∃w1,w.alloc (.cells (Qe r) 49)=w1:=⟨_,rfl⟩
 rw[hw1]at HB1 HL1 HZ1
 obtain⟨c0,c1,c2,c3,c4,c5,c6,c7,c8,c9⟩:=Qb HZ1.o
 clear h
 go_enter Tryz.func26,Tryz.ntmps26
 go_wp2_with fail
 clear hw1
 refine(Uy _ r).mono ?_
 cases hgd:Qq r with
 |false=>
  have HG:=Q0 hgd
  clear hgd
  rintro e w2 ⟨rfl,hb⟩
  have HB2:Sc (Below w.heap.size w w2):=⟨Q5 HB1.o hb⟩
  clear hb c0 c1 c2 c3 c4 c5 c6 c7 c8 c9
  go_wp2
  go_ret2
  exact Q3o.no HG.o ⟨rfl,O8.same HX.o HB2.o⟩
 |true=>
  have HG:=Q0 hgd
  clear hgd
  rintro e w2 ⟨rfl,hb⟩
  have HB2:Sc (Below w.heap.size w w2):=⟨Q5 HB1.o hb⟩
  have HL2:=Q0 (HL1.o.bel hb)
  have HZ2:=Q0 (up hb HZ1.o)
  clear hb c0 c1 c2 c3 c4 c5 c6 c7 c8 c9
  go_wp2_with fail
  refine(X2u _ lb row L bs HL2.o (by omega) h0 h1).mono ?_
  rintro e w3 ⟨rfl,hb⟩
  have HB3:Sc (Below w.heap.size w w3):=⟨Q5 HB2.o hb⟩
  have HL3:=Q0 (HL2.o.bel hb)
  have HZ3:=Q0 (up hb HZ2.o)
  clear hb
  obtain⟨⟨dp,A,s,c,hv,hc,hown⟩,hap⟩:=HL3.o
  have HC:=Q0 hc
  have HO:=Q0 hown
  have hrm:¬(174 - (L.length:Int))<1:=by omega
  have hrd:decide ((174 - (L.length:Int))<1)=false:=decide_eq_false hrm
  have HA2:Sc (L.length+1<=maxLen):=⟨by unfold maxLen;omega⟩
  have HA3:Sc ((L.length+1)*72<=140737488355328):=⟨by omega⟩
  have HLT:Sc (lb<w.heap.size/\w.heap.size<=w3.heap.size):=⟨HX.o.lt,HB3.o.size⟩
  have CP:∀X,Below w3.heap.size w3 X->Calls Tryz.prog 14 #[.slice A s c] X fun e w'=>∃v',e=.returned v'/\Own Xq 10 49 w3.heap.size w' v' L/\Below w3.heap.size w3 w'/\Below X.heap.size X w':=fun X hX=>(Ev X 0 _ L (HO.o.below hX) (by omega)).mono fun e w' ⟨vt,he,ho,hb⟩=>⟨vt,he,ho.mono hX.size,hX.trans (hb.mono hX.size),hb⟩
  obtain⟨d2,d3,d5⟩:=Xy hc
  obtain⟨c0,c1,c2,c3,c4,c5,c6,c7,c8,c9⟩:=Qb HZ3.o
  have lz:=Q6 HZ3.o
  have lc:=Q6 hc
  clear hv hc hown hap
  go_upto_region 5 with fail
  have HQ:Sc (Below w3.heap.size w3 w3):=⟨Below.refl _ _⟩
  have HQA:Sc (Below w3.heap.size w3 (w3.alloc (.cells (Xq r).toArray 49))):=⟨Q3 (Below.refl _ _) _⟩
  go_region_law (first|(go_simp;go_at_call 14;refine(CP _ (by first|exact HQ.o|exact HQ.o.drew|exact HQA.o|exact HQA.o.drew)).mono ?_;rintro e wt ⟨v',rfl,ho,hq,hb⟩;obtain⟨A',n',k',rfl⟩:=ho.slice3;have hn':=ho.len;subst hn';(first|(have HSRC:Sc (wt.heap[w3.heap.size]? =some (.cells (Xq r).toArray 49 (0,0))):=⟨(hb.block w3.heap.size (by simp)).trans (heap_alloc_new w3 (.cells (Xq r).toArray 49))⟩)|skip);have HVT:=Q0 ho;have HQT:=Q0 hq;obtain⟨c0,c1,c2,c3,c4,c5,c6,c7,c8,c9⟩:=Qb ((hq.block _ lz).trans HZ3.o);clear ho hq hb)|((refine step_append_lies _ (by rfl) (.tmp 17) (.tmp 19) 24 (by rfl) 0 49 i0 (.agg #[.int .i64 0,.int .i64 0,.int .i64 0,.int .i64 0,.int .i64 0,.int .i64 0,.bool false,.bool false,.int .i64 0,.int .i64 0]) 10 72 Tryz.underlying24 hi hz0 hz1 hz2 rfl (by decide) _ L.length (flat Xq L) (by rfl) (HVT.o.mono (Nat.zero_le _)) ⟨w3.heap.size,0,none⟩ 1 1 (Xq r) (by rfl) (by rfl) (World.news_of_block HSRC.o) (Z4.one _) Nat.one_pos HA2.o HA3.o (Nat.zero_le _) wt.heap.size rfl ?_);intro ga ca wa g1 g2 g3 g4;obtain⟨hce,hll⟩:=G4.append (row:=row) (r:=r) (HB3.o.trans (HQT.o.mono HB3.o.size)) HLT.o.1 ((HQT.o.block _ lc).trans HC.o) (fun q hq=>Nat.le_trans HLT.o.2 (HVT.o.lt q hq).1) rfl g1 g2 (g3.elim .inl (fun h=> .inr (by rw[h];simp)));obtain⟨e2,e3,e5⟩:=Xy hce;have f5:=Q2 hce 5;have lw:=Q6 hce;have HLL:=Q0 hll;clear g1 g2 g3 g4 hll hce)|((refine step_append_lies _ (by rfl) (.tmp 17) (.tmp 19) 24 (by rfl) 0 49 i0 (.agg #[.int .i64 0,.int .i64 0,.int .i64 0,.int .i64 0,.int .i64 0,.int .i64 0,.bool false,.bool false,.int .i64 0,.int .i64 0]) 10 72 Tryz.underlying24 hi hz0 hz1 hz2 rfl (by decide) _ L.length (flat Xq L) (by rfl) ((HVT.o.mono (Nat.zero_le _)).alloc _) ⟨wt.heap.size,0,none⟩ 1 1 (Xq r) (by rfl) (by rfl) (World.news_of_block (heap_alloc_new wt (.cells (Xq r).toArray 49))) (Z4.one _) Nat.one_pos HA2.o HA3.o (Nat.zero_le _) (wt.heap.size+1) (by simp) ?_);intro ga ca wa g1 g2 g3 g4;obtain⟨hce,hll⟩:=G4.append (row:=row) (r:=r) (Q3 (HB3.o.trans (HQT.o.mono HB3.o.size)) (.cells (Xq r).toArray 49)) HLT.o.1 (upa ((HQT.o.block _ lc).trans HC.o) _) (fun q hq=>Nat.le_trans HLT.o.2 (HVT.o.lt q hq).1) rfl g1 g2 (g3.elim .inl (fun h=> .inr (by rw[h];simp)));obtain⟨e2,e3,e5⟩:=Xy hce;have f5:=Q2 hce 5;have lw:=Q6 hce;have HLL:=Q0 hll;clear g1 g2 g3 g4 hll hce))
  all_goals
   have HCH:Sc ((L++[r]).length<=173):=⟨by simp;omega⟩
   have HLL2:Sc (O8 lb row (L++[r]) bs w (wa.setCell ⟨lb,5,none⟩ (.slice (some ⟨ga,0,none⟩) (L.length+1) ca))):=⟨HLL.o⟩
   clear c0 c1 c2 c3 c4 c5 c6 c7 c8 c9 d2 d3 d5 CP
   go_wp2_with fail
   refine(Vl _ lb HLL2.o.choose (L++[r]) bs HLL2.o.choose_spec.1 (by have:=HCH.o;omega) h0 h1).mono ?_
   rintro e w5 ⟨rfl,hb⟩
   have HLF:=Q0 (HLL2.o.bel hb)
   clear hb
   go_wp2
   go_ret2
   exact Q3o.yes HG.o ⟨by simp,HLF.o⟩
end
section
set_option maxHeartbeats 4000000
set_option maxRecDepth 4000
structure Q3u(B:Nat)(w:World)(lb lg:Nat)(rw rr:Option Nat)(L M:List Q9)(bs:Int):Prop where
 p:Vu w lb rw L bs
 r:G4 w lg rr M bs
 np:B<=lb
 nr:B<=lg
 ne:lb≠lg
 nrw:∀q,rw=some q->B<=q
 nrr:∀q,rr=some q->B<=q
 a:rw≠some lg
 b:rr≠some lb
 d:∀q,rw=some q->rr≠some q
theorem Q3u.bel{B lb lg:Nat}{w w1:World}{rw rr:Option Nat}{L M:List Q9}{bs:Int}(h:Q3u B w lb lg rw rr L M bs)(hb:Below w.heap.size w w1):Q3u B w1 lb lg rw rr L M bs:=
 ⟨h.p.bel hb,h.r.bel hb,h.np,h.nr,h.ne,h.nrw,h.nrr,h.a,h.b,h.d⟩
theorem Q3u.Z8{B lb lg:Nat}{w w1:World}{rw rr:Option Nat}{L M L':List Q9}{bs:Int}(h:Q3u B w lb lg rw rr L M bs)(hl:O7 lb rw L' bs w w1)(hB:B<=w.heap.size):∃rw',Q3u B w1 lb lg rw' rr L' M bs/\Below B w w1:=by
 obtain⟨rw',hp,hk,hat⟩:=hl
 have hr:G4 w1 lg rr M bs:=h.r.kp hk (fun he=>he.elim (fun e=>h.ne e.symm) (fun e=>h.a e.symm)) (fun q hq he=>he.elim (fun e=>h.b (by rw[hq,e])) (fun e=>h.d q e.symm hq))
 have hb:Below B w w1:=hk.below hB (fun q hq=>by
  rcases hq with hq|hq
  ·rw[hq];exact h.np
  ·exact h.nrw q hq.symm)
 have lr:=h.r.lt
 have lrr:=h.r.Gt
 refine⟨rw',⟨hp,hr,h.np,h.nr,h.ne,fun q hq=> ?_,h.nrr,fun he=> ?_,h.b,fun q hq he=> ?_⟩,hb⟩
 ·rcases hat with e|⟨p,e,hp'⟩
  ·exact h.nrw q (e.symm.trans hq)
  ·rw[e]at hq;injection hq with hq;omega
 ·rcases hat with e|⟨p,e,hp'⟩
  ·exact h.a (e.symm.trans he)
  ·rw[e]at he;injection he with he;omega
 ·rcases hat with e|⟨p,e,hp'⟩
  ·exact h.d q (e.symm.trans hq) he
  ·rw[e]at hq;injection hq with hq;have:=lrr q he;omega
theorem Q3u.Y6o{B lb lg:Nat}{w w1:World}{rw rr:Option Nat}{L M M':List Q9}{bs:Int}(h:Q3u B w lb lg rw rr L M bs)(hl:O8 lg rr M' bs w w1)(hB:B<=w.heap.size):∃rr',Q3u B w1 lb lg rw rr' L M' bs/\Below B w w1:=by
 obtain⟨rr',hp,hk,hat⟩:=hl
 have hr:Vu w1 lb rw L bs:=h.p.kp hk (fun he=>he.elim (fun e=>h.ne e) (fun e=>h.b e.symm)) (fun q hq he=>he.elim (fun e=>h.a (by rw[hq,e])) (fun e=>h.d q hq e.symm))
 have hb:Below B w w1:=hk.below hB (fun q hq=>by
  rcases hq with hq|hq
  ·rw[hq];exact h.nr
  ·exact h.nrr q hq.symm)
 have lr:=h.p.lt
 have lrr:=h.p.Gt
 refine⟨rr',⟨hr,hp,h.np,h.nr,h.ne,h.nrw,fun q hq=> ?_,h.a,fun he=> ?_,fun q hq he=> ?_⟩,hb⟩
 ·rcases hat with e|⟨p,e,hp'⟩
  ·exact h.nrr q (e.symm.trans hq)
  ·rw[e]at hq;injection hq with hq;omega
 ·rcases hat with e|⟨p,e,hp'⟩
  ·exact h.b (e.symm.trans he)
  ·rw[e]at he;injection he with he;omega
 ·rcases hat with e|⟨p,e,hp'⟩
  ·exact h.d q hq (e.symm.trans he)
  ·rw[e]at he;injection he with he;have:=lrr q hq;omega
abbrev Jo(l:List Q9):List Q9:=l.filter Qq
theorem Y2d{l:List Q9}{i:Nat}{x:Q9}(hx:l[i]? =some x)(h:Qq x=true):Jo (l.take (i+1))=Jo (l.take i)++[x]:=by
 rw[List.take_add_one,hx];simp[List.filter_append,h]
theorem Y5e{l:List Q9}{i:Nat}{x:Q9}(hx:l[i]? =some x)(h:Qq x=false):Jo (l.take (i+1))=Jo (l.take i):=by
 rw[List.take_add_one,hx];simp[List.filter_append,h]
theorem Y2c{l:List Q9}{i:Nat}:(Jo (l.take i)).length<=i:=Nat.le_trans (List.length_filter_le _ _) (by rw[List.length_take];omega)
theorem Q0g(f:Nat->Addr)(w:World)(base:Nat)(v:Value)(l:List Q9)(bs:Int)(hS:V1 w f)(hown:Own Xq 10 49 base w v l)(hlen:l.length<=170)(h0:0<=bs)(h1:bs<=1000):
  Calls Tryz.prog 7 #[v,.int .i64 bs] w fun e w'=>∃lb lg rw rr,e=.returned (.tuple #[.pointer (some ⟨lb,0,none⟩),.pointer (some ⟨lg,0,none⟩),.bool true])/\Vu w' lb rw (Jo l) bs/\G4 w' lg rr (Jo l) bs/\Below w.heap.size w w':=by
 obtain⟨A,cap,rfl,hnc,hcm⟩:=hown.slice
 obtain⟨n,hn⟩:∃n,l.length=n:=⟨_,rfl⟩
 rw[hn]at hown hlen hnc ⊢
 have HN:=Q0 hn
 have HO:=Q0 hown
 have HS:=Q0 hS
 have h1':bs<=1000000:=by omega
 clear hown hn hS
 go_enter Tryz.func7,Tryz.ntmps7
 go_wp2_with fail
 refine(X1g _).mono ?_
 rintro e w1 ⟨rfl,hb⟩
 have HB1:=Q0 hb
 clear hb
 go_wp2_with fail
 refine(X7a _ _ bs).mono ?_
 rintro e w2 ⟨rfl,hl,hb⟩
 obtain⟨lb,hlb⟩:∃lb,w1.heap.size=lb:=⟨_,rfl⟩
 rw[hlb]at hl ⊢
 have HLB:Sc (w.heap.size<=lb):=⟨by have:=HB1.o.size;omega⟩
 have HB2:=Q0 (Q5 HB1.o hb)
 have HL2:=Q0 hl
 clear hb hl hlb
 go_wp2_with fail
 refine(X2s _).mono ?_
 rintro e w3 ⟨rfl,hb⟩
 have HB3:=Q0 (Q5 HB2.o hb)
 have HL3:=Q0 (HL2.o.bel hb)
 clear hb
 go_wp2_with fail
 refine(X6a _ _ bs).mono ?_
 rintro e w4 ⟨rfl,hl,hb⟩
 have HT:Sc (Q3u w.heap.size w4 lb w3.heap.size none none [] [] bs):=⟨⟨HL3.o.bel hb,hl,HLB.o,HB3.o.size,by have:=HL3.o.lt;omega,fun q h=>by simp at h,fun q h=>by simp at h,by simp,by simp,fun q h=>by simp at h⟩⟩
 obtain⟨lg,hlg⟩:∃lg,w3.heap.size=lg:=⟨_,rfl⟩
 rw[hlg]at HT ⊢
 have HB4:=Q0 (Q5 HB3.o hb)
 clear hb hl hlg HL2 HL3
 go_wp2_with fail
 go_loopg [4,5,6,10] n (fun kx s4 s5 s6 s10 wr=>∃(i:Nat) (rw rr:Option Nat),s4=.pointer none/\s5=.pointer none/\s6=.bool false/\s10=.int .i64 i/\i<=n/\n - i<=kx/\Sc (Below w.heap.size w wr)/\Sc (Q3u w.heap.size wr lb lg rw rr (Jo (l.take i)) (Jo (l.take i)) bs))
 case atStart=>exact⟨0,none,none,rfl,rfl,rfl,rfl,by omega,by omega,HB4,⟨by rw[List.take_zero];exact HT.o⟩⟩
 case round=>
  obtain⟨i,rw0,rr0,rfl,rfl,rfl,rfl,hin,hg,HB,HR⟩:=hrel
  by_cases hlt:i<n
  ·obtain⟨x,hx⟩:∃x,l[i]? =some x:=⟨_,List.getElem?_eq_getElem (by rw[HN.o];exact hlt)⟩
   obtain⟨g,c2,he,_,_,_,_⟩:=HO.o.form (by rw[HN.o];omega)
   injection he with hA hn2 hC
   subst hA
   obtain⟨c0,c1,c2,c3,c4,c5,c6,c7,c8,c9⟩:=(HO.o.below HB.o).Qe hx
   have HX:=Q0 hx
   have hgl:(Jo (l.take i)).length<=170:=Nat.le_trans Y2c (by omega)
   have hil:(i:Int)<n:=by omega
   clear hx hn2 hC
   go_wp2_with fail
   refine(Q7j f _ lb rw0 _ bs x (HS.o.bel HB.o) HR.o.p (by omega) h0 h1').mono ?_
   cases hgd:Qq x with
   |false=>
    have HG:=Q0 (Y5e HX.o hgd)
    intro e w5 ha
    rw[Q3n,if_neg (by rw[hgd];simp)]at ha
    obtain⟨rfl,hl⟩:=ha
    obtain⟨rw1,ht,hb⟩:=HR.o.Z8 hl HB.o.size
    have HR1:=Q0 ht
    have HB5:=Q0 (HB.o.trans hb)
    have HGD:=Q0 hgd
    clear ht hb hl c0 c1 c2 c3 c4 c5 c6 c7 c8 c9 hgd
    obtain⟨c0,c1,c2,c3,c4,c5,c6,c7,c8,c9⟩:=(HO.o.below HB5.o).Qe HX.o
    go_wp2_with fail
    refine(Dt _ lg rr0 _ bs x HR1.o.r (by omega) h0 h1').mono ?_
    intro e w6 ha
    rw[Q3o,if_neg (by rw[HGD.o];simp)]at ha
    obtain⟨rfl,hl⟩:=ha
    obtain⟨rr1,ht,hb⟩:=HR1.o.Y6o hl HB5.o.size
    have HR2:=Q0 ht
    have HB6:=Q0 (HB5.o.trans hb)
    clear ht hb hl c0 c1 c2 c3 c4 c5 c6 c7 c8 c9
    go_wp2_with fail
    refine(Y2i (f:=f) (.bad 1 (by omega) (HS.o.bel HB6.o))).mono ?_
    rintro e w7 ⟨rfl,hb⟩
    have HR3:=Q0 (HR2.o.bel hb)
    have HB7:=Q0 (HB6.o.trans (hb.mono HB6.o.size))
    clear hb
    go_wp2
    go_roundg (n - (i+1))
    case measure=>omega
    case rel=>exact⟨i+1,rw1,rr1,rfl,rfl,rfl,by go_num,by omega,Nat.le_refl _,HB7,⟨by rw[HG.o];exact HR3.o⟩⟩
   |true=>
    have HG:=Q0 (Y2d HX.o hgd)
    intro e w5 ha
    rw[Q3n,if_pos hgd]at ha
    obtain⟨rfl,hl⟩:=ha
    obtain⟨rw1,ht,hb⟩:=HR.o.Z8 hl HB.o.size
    have HR1:=Q0 ht
    have HB5:=Q0 (HB.o.trans hb)
    have HGD:=Q0 hgd
    clear ht hb hl c0 c1 c2 c3 c4 c5 c6 c7 c8 c9 hgd
    obtain⟨c0,c1,c2,c3,c4,c5,c6,c7,c8,c9⟩:=(HO.o.below HB5.o).Qe HX.o
    go_wp2_with fail
    refine(Dt _ lg rr0 _ bs x HR1.o.r (by omega) h0 h1').mono ?_
    intro e w6 ha
    rw[Q3o,if_pos HGD.o]at ha
    obtain⟨rfl,hl⟩:=ha
    obtain⟨rr1,ht,hb⟩:=HR1.o.Y6o hl HB5.o.size
    have HR2:=Q0 ht
    have HB6:=Q0 (HB5.o.trans hb)
    clear ht hb hl c0 c1 c2 c3 c4 c5 c6 c7 c8 c9
    go_wp2_with fail
    refine(Y2i (f:=f) .ok).mono ?_
    rintro e w7 ⟨rfl,hb⟩
    have HR3:=Q0 (HR2.o.bel hb)
    have HB7:=Q0 (HB6.o.trans (hb.mono HB6.o.size))
    clear hb
    go_wp2
    go_roundg (n - (i+1))
    case measure=>omega
    case rel=>exact⟨i+1,rw1,rr1,rfl,rfl,rfl,by go_num,by omega,Nat.le_refl _,HB7,⟨by rw[HG.o];exact HR3.o⟩⟩
  ·obtain rfl:i=n:=by omega
   have HE:Sc (l.take i=l):=⟨by rw[<-HN.o,List.take_length]⟩
   go_wp2
   refine bodyPost_ret (v:=.tuple #[.pointer (some ⟨lb,0,none⟩),.pointer (some ⟨lg,0,none⟩),.bool true]) (by simp[results,Tryz.results7,go_sem]) rfl ⟨lb,lg,rw0,rr0,rfl,?_,?_,HB.o⟩
   ·have:=HR.o.p;rwa [HE.o]at this
   ·have:=HR.o.r;rwa [HE.o]at this
theorem Y1k:Zc [] 0 4 0=(none,An.zero false):=by rfl
theorem Q2c(f:Nat->Addr)(w:World)(hS:V1 w f):
  Calls Tryz.prog 5 #[] w fun e w'=>e=.returned (.bool true)/\Below w.heap.size w w':=by
 have HS:=Q0 hS
 clear hS
 go_enter Tryz.func5,Tryz.ntmps5
 go_wp2_with fail
 refine(Q0g f _ 0 _ [] 0 HS.o Own.nil (by simp) (by omega) (by omega)).mono ?_
 rintro e w1 ⟨lb,lg,rw1,rr1,rfl,hp,hr,hb⟩
 have HB1:=Q0 hb
 have HL:=Q0 hp
 clear hp hr hb
 go_wp2_with fail
 refine(Ui (f:=f) w1 4 0 HL.o (HS.o.bel HB1.o) (by simp) (by omega) (by omega)).mono ?_
 have ha:Zc (Jo []) 0 4 0=(none,An.zero false):=Y1k
 rw[ha]
 rintro e w2 ⟨h|⟨vt,vd,_,rfl,ht,hd⟩,hb⟩
 ·obtain⟨p,b,h,_⟩:=h
  simp at h
 have HB2:=Q0 (Q5 HB1.o hb)
 obtain⟨At,ct,rfl,_,_⟩:=ht.slice
 obtain⟨Ad,cd,rfl,_,_⟩:=hd.slice
 have hz:=heap_alloc_new w2 (.cells #[.slice At 0 ct,.slice Ad 0 cd,.int .i64 0] 34)
 obtain⟨q0,q1,q2⟩:=X7 hz
 clear hz hb ht hd
 go_wp2
 go_ret
 exact⟨rfl,Q3 HB2.o _⟩
end
end Go.Proofs.YtoapihepdallbaaGreatDoor
