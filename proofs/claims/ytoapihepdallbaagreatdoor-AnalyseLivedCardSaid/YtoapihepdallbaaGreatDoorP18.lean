import Derived.Test.YtoapihepdallbaaGreatDoorP16
namespace Go.Proofs.YtoapihepdallbaaGreatDoor
open Go.RowKit
section
set_option maxHeartbeats 4000000
set_option maxRecDepth 4000
structure Ug where
 db:Nat
 fi:Int
 bl:Int
 dn:Int
variable{G:Ug}
structure Jb(G:Ug)(W:World)(lb:Nat)(row:Option Nat)(L:List Q9)(bs:Int):Prop where
 val:∃(A:Option Addr) (s c:Nat),(Value.slice A s c).ownBlock=row/\W.heap[lb]? =some (.cells #[.pointer (some ⟨G.db,0,none⟩),.int .i64 G.fi,.int .i64 G.bl,.int .i64 bs,.int .i64 1,.slice A s c,.int .i64 G.dn] 77 (0,0))/\Own Xq 10 49 0 W (.slice A s c) L
 apart:row≠some lb
theorem Jb.kp{W W':World}{lb:Nat}{row:Option Nat}{L:List Q9}{bs:Int}{S:Nat->Prop}(h:Jb G W lb row L bs)(k:Kp S W W')(h1:¬S lb)(h2:∀q,row=some q->¬S q):Jb G W' lb row L bs:=by
 obtain⟨⟨A,s,c,hv,hc,hown⟩,hap⟩:=h
 exact⟨⟨A,s,c,hv,k.at hc h1,hown.kp k (fun q hq=>h2 q (by rw[<-hv];exact hq))⟩,hap⟩
theorem Jb.bel{W W':World}{lb:Nat}{row:Option Nat}{L:List Q9}{bs:Int}(h:Jb G W lb row L bs)(hb:Below W.heap.size W W'):Jb G W' lb row L bs:=h.kp (Kp.Qi hb (fun _=>False)) id (fun _ _=>id)
theorem Jb.lt{W:World}{lb:Nat}{row:Option Nat}{L:List Q9}{bs:Int}(h:Jb G W lb row L bs):lb<W.heap.size:=by
 obtain⟨⟨_,_,_,_,hc,_⟩,_⟩:=h
 exact Q6 hc
theorem Jb.Gt{W:World}{lb:Nat}{row:Option Nat}{L:List Q9}{bs:Int}(h:Jb G W lb row L bs):∀q,row=some q->q<W.heap.size:=by
 obtain⟨⟨_,_,_,hv,_,ho⟩,_⟩:=h
 exact fun q hq=>(ho.lt q (by rw[hv];exact hq)).2
theorem Jz(w:World)(lb:Nat)(row:Option Nat)(L:List Q9)(bs:Int)(h:Jb G w lb row L bs)(hlen:L.length<=1000000)(h0:0<=bs)(h1:bs<=1000000):
  Calls Tryz.prog 36 #[.pointer (some ⟨lb,0,none⟩)] w fun e w'=>e=.returned (.int .i64 (bs+L.length))/\Below w.heap.size w w':=by
 obtain⟨⟨A,s,c,hv,hc,hown⟩,hap⟩:=h
 obtain⟨c2,c3,c5⟩:=Xy hc
 have hs:=hown.len
 have HS:Sc ((L.length:Int)=s):=⟨by omega⟩
 have hw:IntKind.i64.wrap (bs+(s:Int))=bs+s:=IntWalk.i64_in _ ⟨by omega,by omega⟩
 clear hv hc hown hap hs
 go_enter Tryz.func36,Tryz.ntmps36
 go_upto_region 1 with fail
 go_quiet (fail)
 go_wp2
 go_ret
 exact⟨by rw[HS.o];rfl,X0 (Below.refl _ _) _⟩
theorem Eb(w:World)(lb:Nat)(row:Option Nat)(L:List Q9)(bs:Int)(h:Jb G w lb row L bs)(hlen:(L.length:Int)<=6*G.bl)(hbl:G.bl<=1000)(h0:0<=bs)(h1:bs<=1000000):
  Calls Tryz.prog 74 #[.pointer (some ⟨lb,0,none⟩)] w fun e w'=>e=.returned (.int .i64 (6*G.bl - L.length))/\Below w.heap.size w w':=by
 have HL:=Q0 h
 obtain⟨⟨A,s,c,hv,hc,hown⟩,hap⟩:=h
 obtain⟨d2,d3,d5⟩:=Xy hc
 have c2:∀X:Y2 w,X.world.cell? ⟨lb,2,none⟩=some (.int .i64 G.bl):=fun X=>X.cell d2
 have c5:∀X:Y2 w,X.world.cell? ⟨lb,5,none⟩=some (.slice A s c):=fun X=>X.cell d5
 have hs:=hown.len
 have HS:Sc ((L.length:Int)=s):=⟨by omega⟩
 obtain⟨bl,hbl2⟩:∃bl,G.bl=bl:=⟨_,rfl⟩
 rw[hbl2]at hlen hbl c2 ⊢
 have hs3:(s:Int)<=6*bl:=by omega
 have hw0:IntKind.i64.wrap (6*bl)=6*bl:=IntWalk.i64_in _ ⟨by omega,by omega⟩
 obtain⟨z,hz⟩:∃z,bs+(L.length:Int)=z:=⟨_,rfl⟩
 have HZ:=Q0 hz
 have hz0:0<=z:=by omega
 have hz1:z<=2000000:=by omega
 have CL:∀X:Y2 w,Calls Tryz.prog 36 #[.pointer (some ⟨lb,0,none⟩)] X.world fun e w'=>e=.returned (.int .i64 z)/\Below X.world.heap.size X.world w':=fun X=>by
  have h:=Jz X.world lb row L bs (HL.o.bel X.below) (by omega) h0 h1
  rw[HZ.o]at h
  exact h
 have hw1:IntKind.i64.wrap (6*bl - (s:Int))=6*bl - s:=IntWalk.i64_in _ ⟨by omega,by omega⟩
 have hw2:IntKind.i64.wrap (1073741824 - z)=1073741824 - z:=IntWalk.i64_in _ ⟨by omega,by omega⟩
 clear hv hc hown hap hs d2 d3 d5 hz hbl2
 go_enter Tryz.func74,Tryz.ntmps74
 go_wp2_with fail
 refine Xn (by kernel_rfl) (by kernel_rfl) ?_
 repeat (go_big_quiet_step ((go_at_call 36;exact Y2.call _ (CL _))))
 refine wpQuiet_nil ?_
 intro wq hw'
 have HBQ:=Q0 (Y2.Ju hw')
 clear hw'
 go_wp2
 go_ret
 exact⟨by rw[HS.o];rfl,HBQ.o⟩
theorem D7(w:World)(lb:Nat)(row:Option Nat)(L:List Q9)(bs lsn:Int)(h:Jb G w lb row L bs)(hlen:L.length<=1000000)(h0:0<=bs)(h1:bs<=1000000):
  Calls Tryz.prog 37 #[.pointer (some ⟨lb,0,none⟩),.int .i64 lsn] w fun e w'=>e=.returned (.tuple #[Yg ((Qx L bs lsn).getD Z9),.bool (Qx L bs lsn).isSome])/\Below w.heap.size w w':=by
 have HB1:Sc (Below w.heap.size w (w.alloc (.cells (Qe Z9) 49))):=⟨Q3 (Below.refl _ _) _⟩
 have HL1:=Q0 (h.bel HB1.o)
 have HZ1:=Q0 (heap_alloc_new w (.cells (Qe Z9) 49))
 obtain⟨w1,hw1⟩:∃w1,w.alloc (.cells (Qe Z9) 49)=w1:=⟨_,rfl⟩
 rw[hw1]at HB1 HL1 HZ1
 obtain⟨⟨A,s,c,hv,hc,hown⟩,hap⟩:=HL1.o
 have HC:=Q0 hc
 have HO:=Q0 hown
 obtain⟨c2,c3,c5⟩:=Xy hc
 have hs:=hown.len
 have ha:w.heap.size<=w.heap.size:=Nat.le_refl _
 have lc:=Q6 hc
 clear hv hc hown hap h
 by_cases hlo:lsn<=bs
 ·have hd:decide (lsn<=bs)=true:=decide_eq_true hlo
  have HR:Sc (Qx L bs lsn=none):=⟨Ge (.inl hlo)⟩
  rw[HR.o]
  obtain⟨q0,q1,q2,q3,q4,q5,q6,q7,q8,q9⟩:=Qb HZ1.o
  obtain⟨z0,z1,z2,z3,z4,z5,z6,z7,z8,z9⟩:=Zg HZ1.o
  have lz:=Q6 HZ1.o
  clear hlo
  go_enter Tryz.func37,Tryz.ntmps37
  go_wp2
  refine bodyPost_ret (v:=.tuple #[Yg Z9,.bool false]) (by simp[results,Tryz.results37,go_sem,q0,q1,q2,q3,q4,q5,q6,q7,q8,q9]) rfl ⟨rfl,?_⟩
  exact Xp HB1.o ha
 ·have hd:decide (lsn<=bs)=false:=decide_eq_false hlo
  by_cases hhi:bs+(L.length:Int)<lsn
  ·have HR:Sc (Qx L bs lsn=none):=⟨Ge (.inr hhi)⟩
   rw[HR.o]
   clear hlo
   go_enter Tryz.func37,Tryz.ntmps37
   go_wp2_with fail
   clear hw1
   refine(Jz _ lb row L bs HL1.o hlen h0 h1).mono ?_
   rintro e w2 ⟨rfl,hb⟩
   have HB2:Sc (Below w.heap.size w w2):=⟨Q5 HB1.o hb⟩
   have hz:=up hb HZ1.o
   obtain⟨q0,q1,q2,q3,q4,q5,q6,q7,q8,q9⟩:=Qb hz
   obtain⟨z0,z1,z2,z3,z4,z5,z6,z7,z8,z9⟩:=Zg hz
   have lz:=Q6 hz
   clear hb hz
   go_wp2
   refine bodyPost_ret (v:=.tuple #[Yg Z9,.bool false]) (by simp[results,Tryz.results37,go_sem,q0,q1,q2,q3,q4,q5,q6,q7,q8,q9]) rfl ⟨rfl,?_⟩
   exact Xp HB2.o ha
  ·obtain⟨i,hi⟩:∃i:Nat,lsn=bs+1+i:=⟨(lsn - bs - 1).toNat,by omega⟩
   have hil:i<L.length:=by omega
   obtain⟨r,hr⟩:∃r,L[i]? =some r:=⟨_,List.getElem?_eq_getElem hil⟩
   have HR:Sc (Qx L bs lsn=some r):=⟨by rw[Gr hi hil,hr]⟩
   rw[HR.o]
   have hd2:¬bs+(L.length:Int)<lsn:=hhi
   have hw1':IntKind.i64.wrap (lsn - bs)=lsn - bs:=IntWalk.i64_in _ ⟨by omega,by omega⟩
   have hw2':IntKind.i64.wrap (lsn - bs - 1)=(i:Int):=by rw[IntWalk.i64_in _ ⟨by omega,by omega⟩];omega
   have his:(i:Int)<s:=by omega
   obtain⟨g,cq,he,_,_,_,_⟩:=HO.o.form (by omega)
   injection he with hA hK hCC
   subst hA
   have HRR:=Q0 hr
   clear hlo hhi hi hr hK hCC hs
   go_enter Tryz.func37,Tryz.ntmps37
   go_wp2_with fail
   clear hw1
   refine(Jz _ lb row L bs HL1.o hlen h0 h1).mono ?_
   rintro e w2 ⟨rfl,hb⟩
   have HB2:Sc (Below w.heap.size w w2):=⟨Q5 HB1.o hb⟩
   have hz:=up hb HZ1.o
   obtain⟨q0,q1,q2,q3,q4,q5,q6,q7,q8,q9⟩:=Qb hz
   obtain⟨z0,z1,z2,z3,z4,z5,z6,z7,z8,z9⟩:=Zg hz
   have lz:=Q6 hz
   obtain⟨e0,e1,e2,e3,e4,e5,e6,e7,e8,e9⟩:=(HO.o.below hb).Qe HRR.o
   obtain⟨d2,d3,d5⟩:=Xy (up hb HC.o)
   clear hb hz c2 c3 c5
   go_wp2_with fail
   go_region
   all_goals
    go_wp2
    refine bodyPost_ret (v:=.tuple #[Yg r,.bool true]) (by simp[results,Tryz.results37,go_sem,q0,q1,q2,q3,q4,q5,q6,q7,q8,q9]) rfl ⟨rfl,?_⟩
    first|exact X0 (Xp HB2.o ha) 1|exact Xp HB2.o ha|exact(Xp HB2.o ha).drew|exact Xp HB2.o.drew ha
def Gk(G:Ug)(lb:Nat)(row:Option Nat)(L:List Q9)(bs:Int)(w w':World):Prop:=
 ∃row',Jb G w' lb row' L bs/\Kp (fun q=>q=lb\/some q=row) w w'/\(row'=row\/∃q,row'=some q/\w.heap.size<=q)
theorem Gk.same{lb:Nat}{row:Option Nat}{L:List Q9}{bs:Int}{w w':World}(h:Jb G w lb row L bs)(hb:Below w.heap.size w w'):Gk G lb row L bs w w':=⟨row,h.bel hb,Kp.Qi hb _,.inl rfl⟩
theorem Gk.bel{lb:Nat}{row:Option Nat}{L:List Q9}{bs:Int}{w w1 w2:World}(h:Gk G lb row L bs w w1)(hb:Below w1.heap.size w1 w2):Gk G lb row L bs w w2:=by
 obtain⟨row',hl,hk,hat⟩:=h
 exact⟨row',hl.bel hb,hk.trans (Kp.Qi hb (fun _=>False)) (fun _ h=>h.elim),hat⟩
theorem Jb.append{w W w2:World}{lb g cap s c n:Nat}{row:Option Nat}{A:Option Addr}{v:Value}{L:List Q9}{r:Q9}{bs:Int}(hb:Below w.heap.size w W)(hlt:lb<w.heap.size)
  (hc:W.heap[lb]? =some (.cells #[.pointer (some ⟨G.db,0,none⟩),.int .i64 G.fi,.int .i64 G.bl,.int .i64 bs,.int .i64 1,.slice A s c,.int .i64 G.dn] 77 (0,0))) (hv:∀q,v.ownBlock=some q->w.heap.size<=q) (hn:n=L.length+1)
  (hown:w2.ownsRow 0 49 10 (.slice (some ⟨g,0,none⟩) n cap) n (flat Xq L++Xq r)) (hg:W.grownBy w2 v.ownBlock) (hat:v.ownBlock=some g\/W.heap.size<=g):
  w2.heap[lb]? =some (.cells #[.pointer (some ⟨G.db,0,none⟩),.int .i64 G.fi,.int .i64 G.bl,.int .i64 bs,.int .i64 1,.slice A s c,.int .i64 G.dn] 77 (0,0))/\
   Gk G lb row (L++[r]) bs w (w2.setCell ⟨lb,5,none⟩ (.slice (some ⟨g,0,none⟩) n cap)):=by
 subst hn
 have hc2:w2.heap[lb]? =some (.cells #[.pointer (some ⟨G.db,0,none⟩),.int .i64 G.fi,.int .i64 G.bl,.int .i64 bs,.int .i64 1,.slice A s c,.int .i64 G.dn] 77 (0,0)):=(hg.block lb (Q6 hc) (fun he=>by have:=hv lb he.symm;omega)).trans hc
 have hgf:w.heap.size<=g:=by
  rcases hat with h|h
  ·exact hv g h
  ·have:=hb.size;omega
 have hne:g≠lb:=by omega
 have ho:Own Xq 10 49 0 w2 (.slice (some ⟨g,0,none⟩) (L.length+1) cap) (L++[r]):=Own.Qv hown (by simp) (by rw[Qc,Qm])
 refine⟨hc2,some g,⟨⟨some ⟨g,0,none⟩,L.length+1,cap,rfl,?_,ho.kp (Kp.setCell w2 _ _) (fun q hq he=> ?_)⟩,fun he=>hne (by injection he)⟩,?_,.inr ⟨g,rfl,hgf⟩⟩
 ·rw[Qn hc2 5 _];rfl
 ·injection hq with hq;exact hne (hq.trans he)
 ·exact(((Kp.Qi hb (fun q=>q=lb\/some q=row)).trans (Kp.Zl hg) (fun q hq=> .inr (hv q hq.symm)))).trans (Kp.setCell w2 ⟨lb,5,none⟩ _) (fun q hq=> .inl (.inl hq))
def Q6e(G:Ug)(lb:Nat)(row:Option Nat)(L:List Q9)(bs:Int)(r:Q9)(w:World)(e:Ending)(w':World):Prop:=
 if Qq r=true then e=.returned (.tuple #[.int .i64 (bs+((L.length:Int)+1)),.int .i64 0])/\Gk G lb row (L++[r]) bs w w' else e=.returned (.tuple #[.int .i64 0,.int .i64 102])/\Gk G lb row L bs w w'
theorem Q6e.yes{lb:Nat}{row:Option Nat}{L:List Q9}{bs:Int}{r:Q9}{w w':World}{e:Ending}(h:Qq r=true)(h':e=.returned (.tuple #[.int .i64 (bs+((L.length:Int)+1)),.int .i64 0])/\Gk G lb row (L++[r]) bs w w'):Q6e G lb row L bs r w e w':=by
 unfold Q6e;rw[if_pos h];exact h'
theorem Q6e.no{lb:Nat}{row:Option Nat}{L:List Q9}{bs:Int}{r:Q9}{w w':World}{e:Ending}(h:Qq r=false)(h':e=.returned (.tuple #[.int .i64 0,.int .i64 102])/\Gk G lb row L bs w w'):Q6e G lb row L bs r w e w':=by
 unfold Q6e;rw[if_neg (by rw[h];simp)];exact h'
theorem Q6d(w:World)(lb:Nat)(row:Option Nat)(L:List Q9)(bs:Int)(r:Q9)(h:Jb G w lb row L bs)(hlen:(L.length:Int)+1<=6*G.bl)(hbl:G.bl<=1000)(h0:0<=bs)(h1:bs<=1000000):
  Calls Tryz.prog 26 #[.pointer (some ⟨lb,0,none⟩),Yg r] w (Q6e G lb row L bs r w):=by
 obtain⟨i0,hi,hz0,hz1,hz2⟩:=info_parts Ep
 have HB1:Sc (Below w.heap.size w (w.alloc (.cells (Qe r) 49))):=⟨Q3 (Below.refl _ _) _⟩
 have HX:=Q0 h
 have HL1:=Q0 (h.bel HB1.o)
 have HZ1:=Q0 (heap_alloc_new w (.cells (Qe r) 49))
 obtain⟨w1,hw1⟩:∃w1,w.alloc (.cells (Qe r) 49)=w1:=⟨_,rfl⟩
 rw[hw1]at HB1 HL1 HZ1
 obtain⟨c0,c1,c2,c3,c4,c5,c6,c7,c8,c9⟩:=Qb HZ1.o
 clear h
 go_enter Tryz.func26,Tryz.ntmps26
 go_wp2_with fail
 clear hw1
 refine(Uy _ r).mono ?_
 cases hgd:Qq r with
 |false=>
  have HG:=Q0 hgd
  clear hgd
  rintro e w2 ⟨rfl,hb⟩
  have HB2:Sc (Below w.heap.size w w2):=⟨Q5 HB1.o hb⟩
  clear hb c0 c1 c2 c3 c4 c5 c6 c7 c8 c9
  go_wp2
  go_ret2
  exact Q6e.no HG.o ⟨rfl,Gk.same HX.o HB2.o⟩
 |true=>
  have HG:=Q0 hgd
  clear hgd
  rintro e w2 ⟨rfl,hb⟩
  have HB2:Sc (Below w.heap.size w w2):=⟨Q5 HB1.o hb⟩
  have HL2:=Q0 (HL1.o.bel hb)
  have HZ2:=Q0 (up hb HZ1.o)
  clear hb c0 c1 c2 c3 c4 c5 c6 c7 c8 c9
  go_wp2_with fail
  refine(Eb _ lb row L bs HL2.o (by omega) hbl h0 h1).mono ?_
  rintro e w3 ⟨rfl,hb⟩
  have HB3:Sc (Below w.heap.size w w3):=⟨Q5 HB2.o hb⟩
  have HL3:=Q0 (HL2.o.bel hb)
  have HZ3:=Q0 (up hb HZ2.o)
  clear hb
  obtain⟨⟨A,s,c,hv,hc,hown⟩,hap⟩:=HL3.o
  have HC:=Q0 hc
  have HO:=Q0 hown
  have hrm:¬(6*G.bl - (L.length:Int))<1:=by omega
  have hrd:decide ((6*G.bl - (L.length:Int))<1)=false:=decide_eq_false hrm
  have HA2:Sc (L.length+1<=maxLen):=⟨by unfold maxLen;omega⟩
  have HA3:Sc ((L.length+1)*72<=140737488355328):=⟨by omega⟩
  have HLT:Sc (lb<w.heap.size/\w.heap.size<=w3.heap.size):=⟨HX.o.lt,HB3.o.size⟩
  have CP:∀X,Below w3.heap.size w3 X->Calls Tryz.prog 14 #[.slice A s c] X fun e w'=>∃v',e=.returned v'/\Own Xq 10 49 w3.heap.size w' v' L/\Below w3.heap.size w3 w'/\Below X.heap.size X w':=fun X hX=>(Ev X 0 _ L (HO.o.below hX) (by omega)).mono fun e w' ⟨vt,he,ho,hb⟩=>⟨vt,he,ho.mono hX.size,hX.trans (hb.mono hX.size),hb⟩
  obtain⟨d2,d3,d5⟩:=Xy hc
  obtain⟨c0,c1,c2,c3,c4,c5,c6,c7,c8,c9⟩:=Qb HZ3.o
  have lz:=Q6 HZ3.o
  have lc:=Q6 hc
  clear hv hc hown hap
  go_upto_region 5 with fail
  have HQ:Sc (Below w3.heap.size w3 w3):=⟨Below.refl _ _⟩
  have HQA:Sc (Below w3.heap.size w3 (w3.alloc (.cells (Xq r).toArray 49))):=⟨Q3 (Below.refl _ _) _⟩
  go_region_law (first|(go_simp;go_at_call 14;refine(CP _ (by first|exact HQ.o|exact HQ.o.drew|exact HQA.o|exact HQA.o.drew)).mono ?_;rintro e wt ⟨v',rfl,ho,hq,hb⟩;obtain⟨A',n',k',rfl⟩:=ho.slice3;have hn':=ho.len;subst hn';(first|(have HSRC:Sc (wt.heap[w3.heap.size]? =some (.cells (Xq r).toArray 49 (0,0))):=⟨(hb.block w3.heap.size (by simp)).trans (heap_alloc_new w3 (.cells (Xq r).toArray 49))⟩)|skip);have HVT:=Q0 ho;have HQT:=Q0 hq;obtain⟨c0,c1,c2,c3,c4,c5,c6,c7,c8,c9⟩:=Qb ((hq.block _ lz).trans HZ3.o);clear ho hq hb)|((refine step_append_lies _ (by rfl) (.tmp 17) (.tmp 19) 24 (by rfl) 0 49 i0 (.agg #[.int .i64 0,.int .i64 0,.int .i64 0,.int .i64 0,.int .i64 0,.int .i64 0,.bool false,.bool false,.int .i64 0,.int .i64 0]) 10 72 Tryz.underlying24 hi hz0 hz1 hz2 rfl (by decide) _ L.length (flat Xq L) (by rfl) (HVT.o.mono (Nat.zero_le _)) ⟨w3.heap.size,0,none⟩ 1 1 (Xq r) (by rfl) (by rfl) (World.news_of_block HSRC.o) (Z4.one _) Nat.one_pos HA2.o HA3.o (Nat.zero_le _) wt.heap.size rfl ?_);intro ga ca wa g1 g2 g3 g4;obtain⟨hce,hll⟩:=Jb.append (row:=row) (r:=r) (HB3.o.trans (HQT.o.mono HB3.o.size)) HLT.o.1 ((HQT.o.block _ lc).trans HC.o) (fun q hq=>Nat.le_trans HLT.o.2 (HVT.o.lt q hq).1) rfl g1 g2 (g3.elim .inl (fun h=> .inr (by rw[h];simp)));obtain⟨e2,e3,e5⟩:=Xy hce;have f5:=Q2 hce 5;have lw:=Q6 hce;have HLL:=Q0 hll;clear g1 g2 g3 g4 hll hce)|((refine step_append_lies _ (by rfl) (.tmp 17) (.tmp 19) 24 (by rfl) 0 49 i0 (.agg #[.int .i64 0,.int .i64 0,.int .i64 0,.int .i64 0,.int .i64 0,.int .i64 0,.bool false,.bool false,.int .i64 0,.int .i64 0]) 10 72 Tryz.underlying24 hi hz0 hz1 hz2 rfl (by decide) _ L.length (flat Xq L) (by rfl) ((HVT.o.mono (Nat.zero_le _)).alloc _) ⟨wt.heap.size,0,none⟩ 1 1 (Xq r) (by rfl) (by rfl) (World.news_of_block (heap_alloc_new wt (.cells (Xq r).toArray 49))) (Z4.one _) Nat.one_pos HA2.o HA3.o (Nat.zero_le _) (wt.heap.size+1) (by simp) ?_);intro ga ca wa g1 g2 g3 g4;obtain⟨hce,hll⟩:=Jb.append (row:=row) (r:=r) (Q3 (HB3.o.trans (HQT.o.mono HB3.o.size)) (.cells (Xq r).toArray 49)) HLT.o.1 (upa ((HQT.o.block _ lc).trans HC.o) _) (fun q hq=>Nat.le_trans HLT.o.2 (HVT.o.lt q hq).1) rfl g1 g2 (g3.elim .inl (fun h=> .inr (by rw[h];simp)));obtain⟨e2,e3,e5⟩:=Xy hce;have f5:=Q2 hce 5;have lw:=Q6 hce;have HLL:=Q0 hll;clear g1 g2 g3 g4 hll hce))
  all_goals
   have HCH:Sc ((L++[r]).length<=1000000):=⟨by simp;omega⟩
   have HLL2:Sc (Gk G lb row (L++[r]) bs w (wa.setCell ⟨lb,5,none⟩ (.slice (some ⟨ga,0,none⟩) (L.length+1) ca))):=⟨HLL.o⟩
   clear c0 c1 c2 c3 c4 c5 c6 c7 c8 c9 d2 d3 d5 CP
   go_wp2_with fail
   refine(Jz _ lb HLL2.o.choose (L++[r]) bs HLL2.o.choose_spec.1 (by have:=HCH.o;omega) h0 h1).mono ?_
   rintro e w5 ⟨rfl,hb⟩
   have HLF:=Q0 (HLL2.o.bel hb)
   clear hb
   go_wp2
   go_ret2
   exact Q6e.yes HG.o ⟨by simp,HLF.o⟩
end
section
inductive Yp (L:List Q9):Int->Int->Prop where
 |zero:Yp L 0 0
 |set (l:Int) (r:Q9):Qx L 0 l=some r->r.kind=2->Yp L l l
 |begin_ (l:Int) (r:Q9):Qx L 0 l=some r->r.kind=1->Yp L l 0
 |clr (l n:Int) (r:Q9):Qx L 0 l=some r->r.kind=3->0<=r.next->r.next<l->Yp L r.next n->Yp L l n
 |skip (l n:Int) (r:Q9):Qx L 0 l=some r->(r.kind=4\/r.kind=5)->0<=r.prev->r.prev<l->Yp L r.prev n->Yp L l n
theorem Yp.inv{L:List Q9}{l n:Int}(h:Yp L l n):(l=0/\n=0)\/∃r,Qx L 0 l=some r/\((r.kind=2/\n=l)\/(r.kind=1/\n=0)\/(r.kind=3/\0<=r.next/\r.next<l/\Yp L r.next n)\/((r.kind=4\/r.kind=5)/\0<=r.prev/\r.prev<l/\Yp L r.prev n)):=by
 cases h with
 |zero=>exact .inl ⟨rfl,rfl⟩
 |set _ r h1 h2=>exact .inr ⟨r,h1,.inl ⟨h2,rfl⟩⟩
 |begin_ _ r h1 h2=>exact .inr ⟨r,h1,.inr (.inl ⟨h2,rfl⟩)⟩
 |clr _ _ r h1 h2 h3 h4 h5=>exact .inr ⟨r,h1,.inr (.inr (.inl ⟨h2,h3,h4,h5⟩))⟩
 |skip _ _ r h1 h2 h3 h4 h5=>exact .inr ⟨r,h1,.inr (.inr (.inr ⟨h2,h3,h4,h5⟩))⟩
theorem Yo{L:List Q9}{l:Int}{r:Q9}(h:Qx L 0 l=some r):1<=l/\l<=L.length:=by
 unfold Qx at h
 split at h
 ·omega
 ·cases h
variable{G:Ug}
set_option maxRecDepth 4000 in
set_option maxHeartbeats 4000000 in
theorem Q4q(w:World)(lb:Nat)(row:Option Nat)(L:List Q9)(l n:Int)(h:Jb G w lb row L 0)(hlen:L.length<=1000000)(h0:0<=l)(hn:Yp L l n):
  Calls Tryz.prog 144 #[.pointer (some ⟨lb,0,none⟩),.int .i64 l] w fun e w'=>e=.returned (.tuple #[.int .i64 n,X5 0])/\Below w.heap.size w w':=by
 have HB1:Sc (Below w.heap.size w (w.alloc (.cells fz 41))):=⟨Q3 (Below.refl _ _) _⟩
 have HL1:=Q0 (h.bel HB1.o)
 have HZ1:=Q0 (heap_alloc_new w (.cells fz 41))
 have HN:=Q0 hn
 obtain⟨w1,hw1⟩:∃w1,w.alloc (.cells fz 41)=w1:=⟨_,rfl⟩
 obtain⟨b5,hb5⟩:∃b,w.heap.size=b:=⟨_,rfl⟩
 rw[hw1]at HB1 HL1 HZ1
 rw[hb5]at HZ1
 have H5:Sc (w.heap.size<=b5):=⟨by omega⟩
 clear h hn
 go_enter Tryz.func144,Tryz.ntmps144
 go_wp2_with fail
 clear hw1 hb5
 go_loopg [1,4] (l.toNat) (fun kx s1 s4 wr=>∃q:Int,s1=.int .i64 q/\s4=.int .i64 0/\0<=q/\q.toNat<=kx/\Sc (Yp L q n)/\Sc (Below w1.heap.size w1 wr))
 case atStart=>exact⟨l,rfl,rfl,h0,Nat.le_refl _,HN,⟨Below.refl _ _⟩⟩
 case round=>
  obtain⟨q,rfl,rfl,hq0,hqk,HQ,HB⟩:=hrel
  clear HN
  rcases HQ.o.inv with ⟨rfl,rfl⟩|⟨r,hr,hcase⟩
  ·have e0:((0:Int) !=0)=false:=rfl
   go_wp2_with fail
   refine(Vc _).mono ?_
   rintro e w5 ⟨rfl,hb⟩
   have HB5:=Q0 (Q5 HB.o hb)
   obtain⟨q0,q1,q2,y0,y1,y2,lz⟩:=Q7 (up HB5.o HZ1.o)
   clear hb
   go_wp2
   refine bodyPost_ret (v:=.tuple #[.int .i64 0,X5 0]) (by simp[results,Tryz.results144,go_sem,q0,q1,q2]) rfl ⟨rfl,?_⟩
   exact((((Q5 HB1.o HB5.o).setCell H5.o _).setCell H5.o _).setCell H5.o _)
  ·obtain⟨hq1,hq2⟩:=Yo hr
   have e0:(q !=0)=true:=by simp;omega
   have e0':(q==0)=false:=by simp;omega
   have HR:=Q0 hr
   clear hr
   go_wp2_with fail
   refine(D7 _ lb row L 0 q (HL1.o.bel HB.o) hlen (by omega) (by omega)).mono ?_
   rw[HR.o]
   rintro e w3 ⟨rfl,hb⟩
   simp only[Option.getD_some,Option.isSome_some]
   have HB3:Sc (Below w1.heap.size w1 (w3.alloc (.cells (Qe r) 49))):=⟨Q3 (Q5 HB.o hb) _⟩
   obtain⟨c0,c1,c2,c3,c4,c5,c6,c7,c8,c9⟩:=Qb (heap_alloc_new w3 (.cells (Qe r) 49))
   clear hb
   rcases hcase with ⟨hk,rfl⟩|⟨hk,rfl⟩|⟨hk,hn0,hlt,hnn⟩|⟨hk,hn0,hlt,hnn⟩
   ·have e2:(r.kind==2)=true:=by simp[hk]
    clear hk
    go_wp2_with fail
    refine(Vc _).mono ?_
    rintro e w5 ⟨rfl,hb⟩
    have HB5:=Q0 (Q5 HB3.o hb)
    obtain⟨q0,q1,q2,y0,y1,y2,lz⟩:=Q7 (up HB5.o HZ1.o)
    clear hb c0 c1 c2 c3 c4 c5 c6 c7 c8 c9
    go_wp2
    refine bodyPost_ret (v:=.tuple #[.int .i64 n,X5 0]) (by simp[results,Tryz.results144,go_sem,q0,q1,q2]) rfl ⟨rfl,?_⟩
    exact((((Q5 HB1.o HB5.o).setCell H5.o _).setCell H5.o _).setCell H5.o _)
   ·have e1:(r.kind==1)=true:=by simp[hk]
    have e2:(r.kind==2)=false:=Ql (by omega)
    clear hk
    go_wp2_with fail
    refine(Vc _).mono ?_
    rintro e w5 ⟨rfl,hb⟩
    have HB5:=Q0 (Q5 HB3.o hb)
    obtain⟨q0,q1,q2,y0,y1,y2,lz⟩:=Q7 (up HB5.o HZ1.o)
    clear hb c0 c1 c2 c3 c4 c5 c6 c7 c8 c9
    go_wp2
    refine bodyPost_ret (v:=.tuple #[.int .i64 0,X5 0]) (by simp[results,Tryz.results144,go_sem,q0,q1,q2]) rfl ⟨rfl,?_⟩
    exact((((Q5 HB1.o HB5.o).setCell H5.o _).setCell H5.o _).setCell H5.o _)
   ·have e1:(r.kind==1)=false:=Ql (by omega)
    have e2:(r.kind==2)=false:=Ql (by omega)
    have e3:(r.kind==3)=true:=by simp[hk]
    have d:decide (q<=r.next)=false:=decide_eq_false (by omega)
    have HNN:=Q0 hnn
    clear hk hnn
    go_wp2
    go_roundg r.next.toNat
    case measure=>omega
    case rel=>exact⟨r.next,rfl,rfl,hn0,Nat.le_refl _,HNN,HB3⟩
   ·have e1:(r.kind==1)=false:=Ql (by omega)
    have e2:(r.kind==2)=false:=Ql (by omega)
    have e3:(r.kind==3)=false:=Ql (by omega)
    have d:decide (q<=r.prev)=false:=decide_eq_false (by omega)
    have HNN:=Q0 hnn
    clear hnn
    rcases hk with hk|hk
    ·have e4:(r.kind==4)=true:=by simp[hk]
     clear hk
     go_wp2
     go_roundg r.prev.toNat
     case measure=>omega
     case rel=>exact⟨r.prev,rfl,rfl,hn0,Nat.le_refl _,HNN,HB3⟩
    ·have e4:(r.kind==4)=false:=Ql (by omega)
     have e5:(r.kind==5)=true:=by simp[hk]
     clear hk
     go_wp2
     go_roundg r.prev.toNat
     case measure=>omega
     case rel=>exact⟨r.prev,rfl,rfl,hn0,Nat.le_refl _,HNN,HB3⟩
end
def X6(x:Int):List Value:=[.int .i64 x]
theorem Jm:Kind X6 1:=⟨fun _=>rfl,fun _ u hu=>by simp[X6]at hu;rcases hu with rfl;rfl,by omega⟩
theorem Q0c:(Tryz.prog.info? 3).map (fun i=>(i.zero,i.size,i.bytes))=some (some (.int .i64 0),1,8):=by kernel_rfl
theorem Own.Uw{w:World}{e:TypeId}{base g n cap:Nat}{l:List Int}(h:Own X6 1 e base w (.slice (some ⟨g,0,none⟩) n cap) l){k:Nat}{x:Int}(hx:l[k]? =some x):w.cell? ⟨g,k,none⟩=some (.int .i64 x):=by
 have:=h.cell Jm hx 0 _ rfl
 simpa using this
def Y6q(l:List Int)(w:World)(e:Ending)(w':World):Prop:=
 ∃v',e=.returned v'/\Own X6 1 3 w.heap.size w' v' l/\Below w.heap.size w w'
set_option maxHeartbeats 1000000 in
theorem Vj(w:World)(base:Nat)(v:Value)(l:List Int)(hown:Own X6 1 3 base w v l)(hlen:l.length<=1000000):
  Calls Tryz.prog 17 #[v] w (Y6q l w):=by
 obtain⟨i0,hi,hz0,hz1,hz2⟩:=info_parts Q0c
 obtain⟨A,cap,rfl,hnc,hcm⟩:=hown.slice
 obtain⟨n,hn⟩:∃n,l.length=n:=⟨_,rfl⟩
 rw[hn]at hown hlen hnc ⊢
 have HN:=Q0 hn
 have HO:=Q0 hown
 clear hown hn
 go_enter Tryz.func17,Tryz.ntmps17
 go_wp2_with (at_make;refine wpList_make_own _ rfl _ _ 22 rfl w.heap.size 3 i0 (.int .i64 0) 1 Tryz.underlying22 hi hz0 hz1 .i64 .i64 _ n rfl rfl rfl ?b1 ?b2 (Nat.le_refl _) ?_)
 case b1=>rw[hz2];omega
 case b2=>unfold maxLen;omega
 intro w1 hown1 hg1
 have HO1:Sc (Own X6 1 3 w.heap.size w1 (.slice (some ⟨w.heap.size,0,none⟩) 0 n) ([]:List Int)):=⟨hown1⟩
 have HB1:Sc (Below w.heap.size w w1):=⟨Gq hg1⟩
 clear hown1 hg1
 go_wp2
 go_loopg [3,4] n (fun kx s3 s4 wr=>∃i:Nat,s4=.int .i64 i/\i<=n/\n - i<=kx/\Sc (Below w.heap.size w wr)/\Sc (Own X6 1 3 w.heap.size wr s3 (l.take i)))
 case atStart=>exact⟨0,rfl,by omega,by omega,HB1,⟨by rw[List.take_zero];exact HO1.o⟩⟩
 case round=>
  obtain⟨i,rfl,hin,hg,HB,HR⟩:=hrel
  by_cases hlt:i<n
  ·obtain⟨x,hx⟩:∃x,l[i]? =some x:=⟨_,List.getElem?_eq_getElem (by rw[HN.o];exact hlt)⟩
   obtain⟨g,c2,he,_,_,_,_⟩:=HO.o.form (by rw[HN.o];omega)
   injection he with hA hn2 hC
   subst hA
   have HO2:=HO.o.below HB.o
   have c0:=HO2.Uw hx
   have hnext:l.take (i+1)=l.take i++[x]:=by rw[List.take_add_one,hx];rfl
   have HX:=Q0 hnext
   have HT:Sc ((l.take i).length=i):=⟨by rw[List.length_take,HN.o];omega⟩
   have hil:(i:Int)<n:=by omega
   clear hx HO2 hnext hn2 hC
   go_wp2_with (at_builtin;go_loud (refine wpList_append_own_at _ rfl (.tmp 14) (.tmp 19) 22 rfl w.heap.size 3 i0 (.int .i64 0) 1 8 Tryz.underlying22 hi hz0 hz1 hz2 rfl (by decide) _ (l.take i).length (flat X6 (l.take i)) rfl (HR.o.alloc _) _ 1 1 (X6 x) rfl rfl ?c1 ?c2 ?c3 ?c4 ?c5 ?_))
   case c1=>exact World.news_of_block (heap_alloc_new _ _)
   case c2=>exact Jm.one x
   case c3=>rw[HT.o];unfold maxLen;omega
   case c4=>rw[HT.o];omega
   case c5=>have:=HB.o.size;simp;omega
   intro v1 w2 h1 h2 h3 h4
   have H1:Sc (Own X6 1 3 w.heap.size w2 v1 (l.take (i+1))):=⟨by
    rw[HX.o]
    unfold Own
    rw[Qc,Qm,List.length_append,List.length_take]
    exact h1⟩
   have H2:Sc (Below w.heap.size w w2):=⟨(HB.o.alloc HB.o.size _).grown h2 (by have:=HB.o.size;simp;omega) (fun k hk=>(HR.o.lt k hk).1)⟩
   clear h1 h2 h3 h4 HR HB c0
   go_wp2
   go_roundg (n - (i+1))
   case measure=>omega
   case rel=>exact⟨i+1,by go_num,by omega,Nat.le_refl _,H2,H1⟩
  ·obtain rfl:i=n:=by omega
   have HE:Sc (l.take i=l):=⟨by rw[<-HN.o,List.take_length]⟩
   go_wp2
   go_ret
   exact⟨_,rfl,by have:=HR.o;rwa [HE.o]at this,HB.o⟩
end Go.Proofs.YtoapihepdallbaaGreatDoor
