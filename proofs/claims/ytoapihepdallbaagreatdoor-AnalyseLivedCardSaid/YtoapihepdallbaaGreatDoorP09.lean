import Derived.Test.YtoapihepdallbaaGreatDoorP08
namespace Go.Proofs.YtoapihepdallbaaGreatDoor
open Go.RowKit
def O7(lb:Nat)(row:Option Nat)(L:List Q9)(bs:Int)(w w':World):Prop:=
 ∃row',Vu w' lb row' L bs/\Kp (fun q=>q=lb\/some q=row) w w'/\(row'=row\/∃q,row'=some q/\w.heap.size<=q)
theorem O7.same{lb:Nat}{row:Option Nat}{L:List Q9}{bs:Int}{w w':World}(h:Vu w lb row L bs)(hb:Below w.heap.size w w'):O7 lb row L bs w w':=⟨row,h.bel hb,Kp.Qi hb _,.inl rfl⟩
theorem O7.bel{lb:Nat}{row:Option Nat}{L:List Q9}{bs:Int}{w w1 w2:World}(h:O7 lb row L bs w w1)(hb:Below w1.heap.size w1 w2):O7 lb row L bs w w2:=by
 obtain⟨row',hl,hk,hat⟩:=h
 exact⟨row',hl.bel hb,hk.trans (Kp.Qi hb (fun _=>False)) (fun _ h=>h.elim),hat⟩
theorem Uz{w w2:World}{r:Option Nat}(h:w.drew.grownBy w2 r):w.grownBy w2 r:=⟨h.os,h.tape,h.output,h.size,h.block⟩
theorem Vu.append{w W w2:World}{lb g cap s c:Nat}{dp A:Option Addr}{L:List Q9}{r:Q9}{bs:Int}(hb:Below w.heap.size w W)(hlt:lb<w.heap.size)
  (hc:W.heap[lb]? =some (.cells #[.pointer dp,.int .i64 1,.int .i64 29,.int .i64 bs,.int .i64 1,.slice A s c,.int .i64 0] 160 (0,0))) (hap:(Value.slice A s c).ownBlock≠some lb)
  (hown:w2.ownsRow 0 49 10 (.slice (some ⟨g,0,none⟩) (L.length+1) cap) (L.length+1) (flat Xq L++Xq r)) (hg:W.grownBy w2 (Value.slice A s c).ownBlock) (hat:(Value.slice A s c).ownBlock=some g\/W.heap.size<=g):
  w2.heap[lb]? =some (.cells #[.pointer dp,.int .i64 1,.int .i64 29,.int .i64 bs,.int .i64 1,.slice A s c,.int .i64 0] 160 (0,0))/\
   O7 lb (Value.slice A s c).ownBlock (L++[r]) bs w (w2.setCell ⟨lb,5,none⟩ (.slice (some ⟨g,0,none⟩) (L.length+1) cap)):=by
 have hc2:w2.heap[lb]? =some (.cells #[.pointer dp,.int .i64 1,.int .i64 29,.int .i64 bs,.int .i64 1,.slice A s c,.int .i64 0] 160 (0,0)):=(hg.block lb (Q6 hc) (fun he=>hap he.symm)).trans hc
 have hne:g≠lb:=by
  rcases hat with h|h
  ·intro he;subst he;exact hap h
  ·have:=hb.size;omega
 have ho:Own Xq 10 49 0 w2 (.slice (some ⟨g,0,none⟩) (L.length+1) cap) (L++[r]):=Own.Qv hown (by simp) (by rw[Qc,Qm])
 refine⟨hc2,some g,⟨⟨dp,some ⟨g,0,none⟩,L.length+1,cap,rfl,?_,ho.kp (Kp.setCell w2 _ _) (fun q hq he=> ?_)⟩,fun he=>hne (by injection he)⟩,?_,?_⟩
 ·rw[Qn hc2 5 _];rfl
 ·injection hq with hq;exact hne (hq.trans he)
 ·exact(((Kp.Qi hb (fun q=>q=lb\/some q=(Value.slice A s c).ownBlock)).trans (Kp.Zl hg) (fun q hq=> .inl (.inr hq)))).trans (Kp.setCell w2 ⟨lb,5,none⟩ _) (fun q hq=> .inl (.inl hq))
 ·rcases hat with h|h
  ·exact .inl h.symm
  ·exact .inr ⟨g,rfl,Nat.le_trans hb.size h⟩
def Q3n(f:Nat->Addr)(lb:Nat)(row:Option Nat)(L:List Q9)(bs:Int)(r:Q9)(w:World)(e:Ending)(w':World):Prop:=
 if Qq r=true then e=.returned (.tuple #[.int .i64 (bs+((L.length:Int)+1)),.nilIface])/\O7 lb row (L++[r]) bs w w' else e=.returned (.tuple #[.int .i64 0,Zw (f 1)])/\O7 lb row L bs w w'
theorem Q3n.yes{f:Nat->Addr}{lb:Nat}{row:Option Nat}{L:List Q9}{bs:Int}{r:Q9}{w w':World}{e:Ending}(h:Qq r=true)(h':e=.returned (.tuple #[.int .i64 (bs+((L.length:Int)+1)),.nilIface])/\O7 lb row (L++[r]) bs w w'):Q3n f lb row L bs r w e w':=by
 unfold Q3n;rw[if_pos h];exact h'
theorem Q3n.no{f:Nat->Addr}{lb:Nat}{row:Option Nat}{L:List Q9}{bs:Int}{r:Q9}{w w':World}{e:Ending}(h:Qq r=false)(h':e=.returned (.tuple #[.int .i64 0,Zw (f 1)])/\O7 lb row L bs w w'):Q3n f lb row L bs r w e w':=by
 unfold Q3n;rw[if_neg (by rw[h];simp)];exact h'
set_option maxRecDepth 4000 in
set_option maxHeartbeats 2000000 in
theorem Q7j(f:Nat->Addr)(w:World)(lb:Nat)(row:Option Nat)(L:List Q9)(bs:Int)(r:Q9)(hS:V1 w f)(h:Vu w lb row L bs)(hlen:L.length<=172)(h0:0<=bs)(h1:bs<=1000000):
  Calls Tryz.prog 25 #[.pointer (some ⟨lb,0,none⟩),Yg r] w (Q3n f lb row L bs r w):=by
 obtain⟨i0,hi,hz0,hz1,hz2⟩:=info_parts Ep
 have HB1:Sc (Below w.heap.size w (w.alloc (.cells (Qe r) 49))):=⟨Q3 (Below.refl _ _) _⟩
 have HX:=Q0 h
 have HL1:=Q0 (h.bel HB1.o)
 have HZ1:=Q0 (heap_alloc_new w (.cells (Qe r) 49))
 have HS1:=Q0 (hS.bel HB1.o)
 obtain⟨w1,hw1⟩:∃w1,w.alloc (.cells (Qe r) 49)=w1:=⟨_,rfl⟩
 rw[hw1]at HB1 HL1 HZ1 HS1
 obtain⟨c0,c1,c2,c3,c4,c5,c6,c7,c8,c9⟩:=Qb HZ1.o
 clear hS h
 go_enter Tryz.func25,Tryz.ntmps25
 go_wp2_with fail
 clear hw1
 refine(X0a f _ r HS1.o).mono ?_
 cases hgd:Qq r with
 |false=>
  have HG:=Q0 hgd
  rw[if_neg (by simp)]
  clear hgd
  rintro e w2 ⟨rfl,hb⟩
  have HB2:Sc (Below w.heap.size w w2):=⟨Q5 HB1.o hb⟩
  clear hb c0 c1 c2 c3 c4 c5 c6 c7 c8 c9
  go_wp2
  go_ret2
  exact Q3n.no HG.o ⟨rfl,O7.same HX.o HB2.o⟩
 |true=>
  have HG:=Q0 hgd
  rw[if_pos rfl]
  clear hgd
  rintro e w2 ⟨rfl,hb⟩
  have HB2:Sc (Below w.heap.size w w2):=⟨Q5 HB1.o hb⟩
  have HL2:=Q0 (HL1.o.bel hb)
  have HZ2:=Q0 (up hb HZ1.o)
  clear hb c0 c1 c2 c3 c4 c5 c6 c7 c8 c9
  go_wp2_with fail
  refine(X3z _ lb row L bs HL2.o (by omega) h0 h1).mono ?_
  rintro e w3 ⟨rfl,hb⟩
  have HB3:Sc (Below w.heap.size w w3):=⟨Q5 HB2.o hb⟩
  have HL3:=Q0 (HL2.o.bel hb)
  have HZ3:=Q0 (up hb HZ2.o)
  clear hb
  obtain⟨⟨dp,A,s,c,hv,hc,hown⟩,hap⟩:=HL3.o
  have HC:=Q0 hc
  have HO:=Q0 hown
  have HV:=Q0 hv
  have HAP:Sc ((Value.slice A s c).ownBlock≠some lb):=⟨by rw[hv];exact hap⟩
  obtain⟨d2,d3,d5⟩:=Ga hc
  obtain⟨c0,c1,c2,c3,c4,c5,c6,c7,c8,c9⟩:=Qb HZ3.o
  have lz:=Q6 HZ3.o
  have lc:=Q6 hc
  have HLT:Sc (lb<w.heap.size/\True):=⟨HX.o.lt,trivial⟩
  have hrm:¬(174 - (L.length:Int))<1:=by omega
  have HA2:Sc (L.length+1<=maxLen):=⟨by unfold maxLen;omega⟩
  have HA3:Sc ((L.length+1)*72<=140737488355328):=⟨by omega⟩
  clear hv hc hown hap
  go_upto_region 6 with fail
  go_region_law (first|((refine step_append_lies _ (by rfl) (.tmp 20) (.tmp 22) 24 (by rfl) 0 49 i0 (.agg #[.int .i64 0,.int .i64 0,.int .i64 0,.int .i64 0,.int .i64 0,.int .i64 0,.bool false,.bool false,.int .i64 0,.int .i64 0]) 10 72 Tryz.underlying24 hi hz0 hz1 hz2 rfl (by decide) _ L.length (flat Xq L) (by rfl) ((HO.o.alloc _).drew) ⟨w3.heap.size,0,none⟩ 1 1 (Xq r) (by rfl) (by rfl) (World.news_of_block (heap_alloc_new w3 (.cells (Xq r).toArray 49))) (Z4.one _) Nat.one_pos HA2.o HA3.o (Nat.zero_le _) (w3.heap.size+1) (by simp) ?_);intro ga ca wa g1 g2 g3 g4;obtain⟨hce,hll⟩:=Vu.append (r:=r) (HB3.o.alloc HB3.o.size (.cells (Xq r).toArray 49)) HLT.o.1 (upa HC.o _) HAP.o g1 (Uz g2) (g3.elim .inl (fun h=> .inr (by rw[h];simp)));obtain⟨e2,e3,e5⟩:=Ga hce;have f5:=Q2 hce 5;have HLL:=Q0 hll;have HCE:=Q0 hce;clear g1 g2 g3 g4 hll hce))
  all_goals
   have HLL2:Sc (O7 lb row (L++[r]) bs w (wa.setCell ⟨lb,5,none⟩ (.slice (some ⟨ga,0,none⟩) (L.length+1) ca))):=⟨by rw[<-HV.o];exact HLL.o⟩
   have HCH:Sc ((L++[r]).length<=173):=⟨by simp;omega⟩
   clear c0 c1 c2 c3 c4 c5 c6 c7 c8 c9 d2 d3 d5
   go_wp2_with fail
   refine(Jx _ lb HLL2.o.choose (L++[r]) bs HLL2.o.choose_spec.1 (by have:=HCH.o;omega) h0 h1).mono ?_
   rintro e w5 ⟨rfl,hb⟩
   have HLF:=Q0 (HLL2.o.bel hb)
   clear hb
   go_wp2
   go_ret2
   exact Q3n.yes HG.o ⟨rfl,HLF.o⟩
section
set_option maxHeartbeats 2000000
set_option maxRecDepth 4000
theorem Vu.left{B fb lb lg:Nat}{w w':World}{rt rd row:Option Nat}{s s':An}{L:List Q9}{bs:Int}(h:Vu w lg row L bs)(hl:Xt B fb lb rt rd s' w w')(hf:Yl B w fb lb rt rd s)(h1:lg<B)(h2:∀q,row=some q->q<B):Vu w' lg row L bs:=by
 have hb:=hl.below hf
 refine h.kp (S:=fun q=>B<=q) ⟨hb.os,hb.tape,hb.output,hb.size,fun k hk hn=>hb.block k (by omega)⟩ (by omega) (fun q hq=>by have:=h2 q hq;omega)
theorem Ek{B fb lb b:Nat}{w w':World}{rt rd:Option Nat}{s':An}{o:Obj}(hl:Xt B fb lb rt rd s' w w')(hb:w.heap[b]? =some o)(hn:b≠fb/\rt≠some b/\rd≠some b):w'.heap[b]? =some o:=hl.at_ hb hn.1 hn.2.1 hn.2.2
theorem Yl.fresh{B fb lb:Nat}{w:World}{rt rd:Option Nat}{s:An}(h:Yl B w fb lb rt rd s):w.heap.size≠fb/\rt≠some w.heap.size/\rd≠some w.heap.size:=
 ⟨by have:=h.lt;omega,fun he=>by have:=h.Gt.1 _ he;omega,fun he=>by have:=h.Gt.2 _ he;omega⟩
abbrev Ed(b:Nat):Value:=.iface 163 (.pointer (some ⟨b,0,none⟩))
theorem Ot(f:Nat->Addr)(w:World)(lsn:Int)(hS:V1 w f):
  Calls Tryz.prog 31 #[.int .i64 lsn] w fun e w'=>∃b,e=.returned (Ed b)/\w.heap.size<=b/\w'.heap[b]? =some (.cells #[.int .i64 lsn,Zw (f 7)] 165 (0,0))/\Below w.heap.size w w':=by
 have hge:w.cell? ⟨1,0,none⟩=some (Zw (f 7)):=hS.cell 7 (by omega)
 clear hS
 go_enter Tryz.func31,Tryz.ntmps31
 go_wp2
 go_ret
 exact⟨_,rfl,Nat.le_refl _,heap_alloc_new w _,Q3 (Below.refl _ _) _⟩
variable{B fb lb:Nat}{rt rd row:Option Nat}{s:An}{L:List Q9}{bs:Int}
theorem Y1r(w:World)(lsn:Int)(r:Q9)(h:Yl B w fb lb rt rd s)(hl:Vu w lb row L bs)(hlb:lb<B/\∀q,row=some q->q<B)(ht:s.t.length<=1000000)(hd:s.d.length<=1000000):
  Calls Tryz.prog 75 #[.pointer (some ⟨fb,0,none⟩),.int .i64 lsn,Yg r] w fun e w'=>e=.returned (.bool (J2 bs lsn r s).1)/\Xt B fb lb rt rd (J2 bs lsn r s).2 w w':=by
 obtain⟨ok,hok⟩:∃ok,(J2 bs lsn r s).1=ok:=⟨_,rfl⟩
 obtain⟨s',hs'⟩:∃s',(J2 bs lsn r s).2=s':=⟨_,rfl⟩
 rw[hok,hs']
 have HOK:=Q0 (And.intro hok hs')
 have HB1:Sc (Below w.heap.size w (w.alloc (.cells (Qe r) 49))):=⟨Q3 (Below.refl _ _) _⟩
 have HF0:=Q0 h
 have HF1:=Q0 (h.bel HB1.o)
 have HL1:=Q0 (hl.bel HB1.o)
 have HFR:=Q0 h.fresh
 have HZ1:=Q0 (heap_alloc_new w (.cells (Qe r) 49))
 obtain⟨w1,hw1⟩:∃w1,w.alloc (.cells (Qe r) 49)=w1:=⟨_,rfl⟩
 obtain⟨b1,hb1⟩:∃b,w.heap.size=b:=⟨_,rfl⟩
 rw[hw1]at HB1 HF1 HL1 HZ1
 rw[hb1]at HZ1 HFR
 have HLB:=Q0 hlb
 obtain⟨c0,c1,c2,c3,c4,c5,c6,c7,c8,c9⟩:=Qb HZ1.o
 obtain⟨f0,f4⟩:=HF1.o.cells
 have z4:=HF1.o.Qr 4
 clear hok hs' h hl hlb
 by_cases h8:r.kind=8
 ·have b8:(r.kind==8)=true:=by simp[h8]
  have HC:Sc (ok=(decide (r.prev<lsn)&&decide (r.next<lsn))/\s'={s with t:=Qt s.t (r.txn,r.key,r.prev,r.next),m:=max s.m r.txn}):=⟨by rw[<-HOK.o.1,<-HOK.o.2];unfold J2;rw[if_pos h8];exact⟨rfl,rfl⟩⟩
  clear h8
  go_enter Tryz.func75,Tryz.ntmps75
  go_upto_region 3 with fail
  clear hw1 hb1
  have CA:Calls Tryz.prog 121 #[.pointer (some ⟨fb,1,none⟩),.agg #[.int .i64 r.txn,.int .i64 r.key,.int .i64 r.prev,.int .i64 r.next]] w1.drew fun e w2=>e=.returned (.tuple #[])/\Xt B fb lb rt rd {s with t:=Qt s.t (r.txn,r.key,r.prev,r.next),m:=max s.m r.txn} w1 w2:=(Q9k w1.drew (r.txn,r.key,r.prev,r.next) HF1.o.drew ht).mono fun e w' ⟨he,hl⟩=>⟨he,hl.from_ (Below.refl w1.heap.size w1).drew⟩
  go_region_law (first|(go_simp;go_at_call 121;refine CA.mono ?_;rintro e w2 ⟨rfl,hl⟩;have HLF:=Q0 hl;clear hl))
  all_goals
   obtain⟨c0,c1,c2,c3,c4,c5,c6,c7,c8,c9⟩:=Qb (Ek HLF.o HZ1.o HFR.o)
   by_cases hp:r.prev<lsn
   ·have hp':decide (r.prev<lsn)=true:=decide_eq_true hp
    clear hp
    go_wp2
    go_ret
    exact⟨by rw[HC.o.1,hp',Bool.true_and];rfl,by rw[HC.o.2];exact HLF.o.from_ HB1.o⟩
   ·have hp':decide (r.prev<lsn)=false:=decide_eq_false hp
    clear hp
    go_wp2
    go_ret
    exact⟨by rw[HC.o.1,hp',Bool.false_and];rfl,by rw[HC.o.2];exact HLF.o.from_ HB1.o⟩
 ·have b8:(r.kind==8)=false:=by simp[h8]
  by_cases h9:r.kind=9
  ·have b9:(r.kind==9)=true:=by simp[h9]
   have HC:Sc (ok=(decide (bs<r.prev)&&decide (r.prev<lsn))/\s'={s with d:=add s.d (r.page,r.prev)}):=⟨by rw[<-HOK.o.1,<-HOK.o.2];unfold J2;rw[if_neg h8,if_pos h9];exact⟨rfl,rfl⟩⟩
   clear h8 h9
   go_enter Tryz.func75,Tryz.ntmps75
   go_upto_region 6 with fail
   clear hw1 hb1
   have CA:Calls Tryz.prog 122 #[.pointer (some ⟨fb,3,none⟩),.int .i64 r.page,.int .i64 r.prev] w1.drew fun e w2=>e=.returned (.tuple #[])/\Xt B fb lb rt rd {s with d:=add s.d (r.page,r.prev)} w1 w2:=(X7l w1.drew r.page r.prev HF1.o.drew hd).mono fun e w' ⟨he,hl⟩=>⟨he,hl.from_ (Below.refl w1.heap.size w1).drew⟩
   go_region_law (first|(go_simp;go_at_call 122;refine CA.mono ?_;rintro e w2 ⟨rfl,hl⟩;have HLF:=Q0 hl;clear hl))
   all_goals
    have HL2:=Q0 (HL1.o.left HLF.o HF1.o HLB.o.1 HLB.o.2)
    obtain⟨d0,d1,d2,d3,d4,d5,d6,d7,d8,d9⟩:=Qb (Ek HLF.o HZ1.o HFR.o)
    obtain⟨rt2,rd2,hf2,_,_,_⟩:=HLF.o
    obtain⟨g0,g4⟩:=hf2.cells
    have k3:∀X:Y2 w2,X.world.cell? ⟨b1,3,none⟩=some (.int .i64 r.prev):=fun X=>X.cell d3
    have k0:∀X:Y2 w2,X.world.cell? ⟨fb,0,none⟩=some (.pointer (some ⟨lb,0,none⟩)):=fun X=>X.cell g0
    have CB:∀X:Y2 w2,Calls Tryz.prog 28 #[.pointer (some ⟨lb,0,none⟩)] X.world fun e w'=>e=.returned (.int .i64 bs)/\w'=X.world:=fun X=>D5 X.world lb row L bs (HL2.o.bel X.below)
    clear hf2 g0 g4 d0 d1 d2 d3 d4 d5 d6 d7 d8 d9 c0 c1 c2 c3 c4 c5 c6 c7 c8 c9 f0 f4 z4
    by_cases hp:bs<r.prev
    ·have hp':decide (bs<r.prev)=true:=decide_eq_true hp
     clear hp
     go_wp2_with fail
     refine Xn (by kernel_rfl) (by kernel_rfl) ?_
     repeat (go_big_quiet_step ((go_at_call 28;exact Y2.Q1a _ (CB _))))
     refine wpQuiet_nil ?_
     intro wq hw'
     have HBQ:=Q0 (Y2.Ju hw')
     clear hw'
     go_wp2
     go_ret
     exact⟨by rw[HC.o.1,hp',Bool.true_and];rfl,by rw[HC.o.2];exact(HLF.o.bel HBQ.o).from_ HB1.o⟩
    ·have hp':decide (bs<r.prev)=false:=decide_eq_false hp
     clear hp
     go_wp2_with fail
     refine Xn (by kernel_rfl) (by kernel_rfl) ?_
     repeat (go_big_quiet_step ((go_at_call 28;exact Y2.Q1a _ (CB _))))
     refine wpQuiet_nil ?_
     intro wq hw'
     have HBQ:=Q0 (Y2.Ju hw')
     clear hw'
     go_wp2
     go_ret
     exact⟨by rw[HC.o.1,hp',Bool.false_and];rfl,by rw[HC.o.2];exact(HLF.o.bel HBQ.o).from_ HB1.o⟩
  ·have b9:(r.kind==9)=false:=by simp[h9]
   by_cases h10:r.kind=10
   ·have b10:(r.kind==10)=true:=by simp[h10]
    have HC:Sc (ok=true/\s'={s with m:=max s.m r.next,ins:=false}):=⟨by rw[<-HOK.o.1,<-HOK.o.2];unfold J2;rw[if_neg h8,if_neg h9,if_pos h10];exact⟨rfl,rfl⟩⟩
    clear h8 h9 h10
    go_enter Tryz.func75,Tryz.ntmps75
    go_upto_region 9 with fail
    clear hw1 hb1
    have CA:Calls Tryz.prog 123 #[.pointer (some ⟨fb,1,none⟩),.int .i64 r.next] w1.drew fun e w2=>e=.returned (.tuple #[])/\Xt B fb lb rt rd {s with m:=max s.m r.next} w1 w2:=(Y4q w1.drew r.next HF1.o.drew).mono fun e w' ⟨he,hl⟩=>⟨he,hl.from_ (Below.refl w1.heap.size w1).drew⟩
    go_region_law (first|(go_simp;go_at_call 123;refine CA.mono ?_;rintro e w2 ⟨rfl,hl⟩;have HLF:=Q0 hl;clear hl))
    all_goals
     obtain⟨rt2,rd2,hf2,_,_,_⟩:=HLF.o
     obtain⟨g0,g4⟩:=hf2.cells
     have y4:=hf2.Qr 4
     have lf:=hf2.lt
     clear hf2 c0 c1 c2 c3 c4 c5 c6 c7 c8 c9 f0 f4 z4
     go_wp2
     go_ret
     exact⟨by rw[HC.o.1];rfl,by rw[HC.o.2];exact(HLF.o.X0d false).from_ HB1.o⟩
   ·have b10:(r.kind==10)=false:=by simp[h10]
    have HC:Sc (ok=false/\s'=s):=⟨by rw[<-HOK.o.1,<-HOK.o.2];unfold J2;rw[if_neg h8,if_neg h9,if_neg h10];exact⟨rfl,rfl⟩⟩
    clear h8 h9 h10
    go_enter Tryz.func75,Tryz.ntmps75
    go_wp2
    go_ret
    exact⟨by rw[HC.o.1];rfl,by rw[HC.o.2];exact Xt.same HF0.o HB1.o⟩
end
end Go.Proofs.YtoapihepdallbaaGreatDoor
