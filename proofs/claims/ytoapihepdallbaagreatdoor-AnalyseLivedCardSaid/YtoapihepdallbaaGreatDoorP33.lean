import Derived.Test.YtoapihepdallbaaGreatDoorP32
namespace Go.Proofs.YtoapihepdallbaaGreatDoor
open Go.RowKit
theorem Part.aside{A B:Part}{w wX wY:World}{b:Nat}(hl:Q8 A B w wX)(hk:Kp (fun q=>q=b) wX wY)(hb:w.heap.size<=b)(hn:¬B.U b):Q8 A B w wY:=
 ⟨B.kp hl.1 hk (fun q hq he=>hn (by rw[<-he];exact hq)),hl.2.1.trans hk (fun q hq=> .inr (by rw[hq];exact hb)),hl.2.2⟩
theorem J6{w:World}{b:Nat}{u0 u1 u2 x0 x1 x2:Value}{t:TypeId}(h:w.heap[b]? =some (.cells #[u0,u1,u2] t (0,0))):(((w.setCell ⟨b,0,none⟩ x0).setCell ⟨b,1,none⟩ x1).setCell ⟨b,2,none⟩ x2).heap[b]? =some (.cells #[x0,x1,x2] t (0,0)):=by
 rw[Qn (Qn (Qn h 0 _) 1 _) 2 _]
 rfl
theorem De{w:World}{b:Nat}{x0 x1 x2:Value}:Kp (fun q=>q=b) w (((w.setCell ⟨b,0,none⟩ x0).setCell ⟨b,1,none⟩ x1).setCell ⟨b,2,none⟩ x2):=(((Kp.Vd (S:=fun q=>q=b)).put (b:=b) rfl _).put (b:=b) rfl _).put (b:=b) rfl _
theorem X0i(w:World)(S:WG)(id:Int)(h:Qh S w)(hok:Gy S.P.pages S.abs):
  Calls Tryz.prog 105 #[.pointer (some ⟨S.T.lb,0,none⟩),.int .i64 (got S.T.tx id).2.2.2] w fun e w'=>∃v l,e=.returned (.tuple #[v,X5 0])/\Own X6 1 3 0 w' v l/\l.length<=1000/\Below w.heap.size w w':=by
 have hset:V7 S.P.L id (got S.T.tx id).2.2.2:=by
  cases hh:has S.T.tx id with
  |false=>unfold got;rw[if_neg (by rw[hh];simp)];exact .inl rfl
  |true=>
   obtain⟨x,hx,he⟩:=Qy.1 hh
   have hg:=(Z3 (show Qd S.T.tx from hok.Je) hx).2.2
   rw[he]at hg
   rw[hg,<-he]
   exact hok.txs x hx
 have hr:=hset.range
 have hlen:S.P.L.length<=384:=by have:=h.X2.plain.len;have:=h.X2.plain.blk;omega
 obtain⟨l,hl⟩:=Y1m hok.wf (got S.T.tx id).2.2.2.toNat (got S.T.tx id).2.2.2 (Nat.le_refl _) hset
 rw[h.pl]
 refine(X8e w S.P.O.lb S.P.Js S.P.L (got S.T.tx id).2.2.2 (got S.T.tx id).2.2.2 l h.X2.dl.log (by omega) hr.1 (by omega) (X9n hset) hl).mono ?_
 rintro e w' ⟨v,he,ho,hb⟩
 exact⟨v,l,he,ho,by have:=hl.length_le;omega,hb⟩
theorem X0k(w:World)(S:WG)(h:Qh S w)(hvm:S.P.D.vm<=900000):
  Calls Tryz.prog 107 #[.pointer (some ⟨S.T.lb,0,none⟩)] w fun e w'=>e=.returned (.int .i64 0)/\∃P',Q8 (Q1 S) (Q1 {S with P:=P'}) w w'/\G5 S.P P'/\P'.O=S.P.O/\P'.D.vm<=S.P.D.vm:=by
 rw[h.pl]
 refine(Q2j w S.P h.X2 hvm).mono ?_
 rintro e w' ⟨he,P',hl,hs,ho,hv,_⟩
 exact⟨he,P',h.Uj hl hs,hs,ho,hv⟩
theorem Y6p.cnt{S S':WG}{n k v:Nat}{id last:Int}(hc:Cnt S k v)(h:Y6p S S' n id last):Cnt S' k v:=by
 have e1:S'.T.lk=Of n S.T.lk:=congrArg Abs.lk h.abs
 have e2:S'.T.tx=X4 S.T.tx id:=congrArg Abs.tx h.abs
 have e3:S'.T.most=S.T.most:=congrArg Abs.most h.abs
 refine⟨by rw[h.kept.Qu];exact hc.Qu,?_,Nat.le_trans h.wt hc.wt,?_,by rw[e3];exact hc.most,by rw[h.vm];exact hc.vm,by have:=h.k;have:=hc.sp;rw[h.f];omega,hc.small,fun x hx=> ?_,fun x hx=> ?_⟩
 ·rw[e1];unfold Of;exact Nat.le_trans (List.length_filter_le _ _) hc.lk
 ·rw[e2];exact Nat.le_trans (drop'_length _ _) hc.tx
 ·rcases h.sav x hx with h1|h1
  ·exact hc.sav x h1
  ·rw[h1];exact Nat.zero_le _
 ·rw[e1]at hx
  unfold Of at hx
  exact hc.md x (List.mem_filter.1 hx).1
theorem Cnt.Xg{S:WG}{k v:Nat}(h:Cnt S k v){f k':Int}(hs:f+k'<=400)(row:Option Nat)(L:List Q9):Cnt ((S.space f k').Xg row L) k v:=⟨h.Qu,h.lk,h.wt,h.tx,h.most,h.vm,hs,h.small,h.sav,h.md⟩
theorem Cnt.X2{S:WG}{k v:Nat}(h:Cnt S k v){P':X9}(hv:P'.D.vm<=v):Cnt {S with P:=P'} k v:=⟨h.Qu,h.lk,h.wt,h.tx,h.most,hv,h.sp,h.small,h.sav,h.md⟩
theorem Q6h(w:World)(S0 S:WG)(n k v:Nat)(x:TX)(h:Qh S w)(hn:n<8)(hc:Cnt S k v)(hok:Ok S0.P.pages (6*S0.P.bl) S0.abs)(hl:S0.P.L.length<6*S0.P.bl)(hbl:S0.P.bl<=64)(hx:x∈S0.T.tx)(hg:Qq (recC x.1 x.2.2.1)=true)(hm:S0.T.X1[n]? =some x.1)(ha:S.abs=S0.abs.grow (recC x.1 x.2.2.1))(hp:S.P.pages=S0.P.pages)(hb:S.P.bl=S0.P.bl):
  Calls Tryz.prog 108 #[.pointer (some ⟨S.T.sb,0,none⟩),.int .i64 n,Gn x,.int .i64 ((S0.P.L.length:Int)+1)] w fun e w'=>∃ce S',e=.returned (X5 ce)/\Q8 (Q1 S) (Q1 S') w w'/\Kept S.T S'.T/\Cnt S' k v/\Ok S'.P.pages (6*S'.P.bl) S'.abs:=by
 have hL:S.P.L=S0.P.L++[recC x.1 x.2.2.1]:=congrArg Abs.L ha
 have hid:=hok.Yc.ids x hx
 have hmo:=hok.Yc.most
 refine(Q8b w S n x ((S0.P.L.length:Int)+1) h hn (by have:=hc.tx;have:=hc.small;omega) (by have:=hc.lk;have:=hc.small;omega) hc.wt2).mono ?_
 rintro e w' (⟨c,row',k',hc0,hk',he,hgf,hlv⟩|⟨S',he,hg1,hl1,hlv,hE⟩)
 ·refine⟨c,_,he,hlv,Ys S.T,hc.Xg (by have:=hc.sp;omega) _ _,?_⟩
  have hfull:6*S0.P.bl<=S.P.L.length:=by
   rcases hgf with h1|h1
   ·have:=Q4i (k:=6) (id:=x.1) (prev:=(S0.P.L.length:Int)+1) (.inr (.inr rfl)) hid.1 (by omega) (by omega) (by omega)
    rw[h1]at this
    cases this
   ·rw[hb]at h1;exact h1
  show Ok S.P.pages (6*S.P.bl) ⟨S.P.L,S.T.tx,S.T.most,S.T.lk,S.T.X1,S.P.pv,S.P.O.tab,S.T.ck⟩
  have:(⟨S.P.L,S.T.tx,S.T.most,S.T.lk,S.T.X1,S.P.pv,S.P.O.tab,S.T.ck⟩:Abs)=S0.abs.grow (recC x.1 x.2.2.1):=ha
  rw[this,hp,hb]
  exact⟨(hok.X7i hl hx hg).1,.inl (by show 6*S0.P.bl<=(S0.P.L++[recC x.1 x.2.2.1]).length;rw[<-hL];exact hfull)⟩
 ·refine⟨0,S',he,hlv,hE.kept,hE.cnt hc,?_⟩
  rw[hE.abs,hE.pages,hE.bl,ha,hp,hb]
  exact hok.Y4i hl (by omega) hx hg hm
set_option maxRecDepth 4000 in
set_option maxHeartbeats 8000000 in
theorem Q6z(w:World)(S:WG)(n k v:Nat)(h:Qh S w)(hn:n<S.T.Qu)(hc:Cnt S k v)(hv:v<=700000)(hok:Ok S.P.pages (6*S.P.bl) S.abs):
  Calls Tryz.prog 63 #[.pointer (some ⟨S.T.sb,0,none⟩),.int .i64 n] w fun e w'=>(∃c,e=.returned (X5 c))/\∃S',Yn S S' k v w w':=by
 have HZ0:=Q0 h
 have HC:=Q0 hc
 have HOK:=Q0 hok
 have hn8:n<8:=by have:=hc.Qu;omega
 obtain⟨w1,hw1⟩:∃w1,w.alloc (.cells fz 41)=w1:=⟨_,rfl⟩
 have HB1:Sc (Below w.heap.size w w1):=⟨hw1▸Q3 (Below.refl _ _) _⟩
 have HBS:Sc (w1.heap.size=w.heap.size+1):=⟨by rw[<-hw1];simp⟩
 have HN1:Sc (w1.heap[w.heap.size]? =some (.cells fz 41 (0,0))):=⟨by rw[<-hw1];exact heap_alloc_new _ _⟩
 have HZ:Sc (Qh S w1):=⟨(Q1 S).bel h HB1.o⟩
 obtain⟨b4,hb4⟩:∃b,w.heap.size=b:=⟨_,rfl⟩
 have HB4:=Q0 hb4
 have HBX:Sc (∀W,Kp (Q1 S).U w1 W->W.heap[b4]? =some (.cells fz 41 (0,0))):=⟨fun W hk=>hk.at (by rw[<-HB4.o];exact HN1.o) (fun hu=>by have:=(Q1 S).lt HZ0.o _ hu;have:=HB4.o;omega)⟩
 have CM:=Oh w1 S n HZ.o hn hc.Qu hc.wt2 (by have:=hc.tx;have:=hc.small;omega)
 obtain⟨sb,hsb⟩:∃sb,S.T.sb=sb:=⟨_,rfl⟩
 have HSB:=Q0 hsb
 rw[hsb]at CM ⊢
 have CM:=Q0 CM
 have HV:=Q0 hv
 clear h hn hc hok hsb hv
 go_enter Tryz.func63,Tryz.ntmps63
 go_wp2_with fail
 try rw[hw1]
 try rw[hb4]
 clear hw1 hb4
 refine CM.o.mono ?_
 rintro e w2 ⟨hm,wr1,hl1⟩
 have HL1:=Q0 hl1
 obtain⟨S1,hS1⟩:∃S1,S.Y1 n wr1=S1:=⟨_,rfl⟩
 have HS1:=Q0 hS1
 rw[hS1]at HL1
 have HC1:Sc (Cnt S1 k v):=⟨by rw[<-hS1];exact HC.o.Y1 n wr1⟩
 have HSB1:Sc (S1.T.sb=sb/\S1.abs=S.abs/\S1.P=S.P/\Kept S.T S1.T/\S1.T.tx=S.T.tx/\S1.T.X1=S.T.X1):=⟨by rw[<-hS1];exact⟨HSB.o,rfl,rfl,Ys S.T,rfl,rfl⟩⟩
 clear hl1 hS1
 rcases hm with ⟨hm0,rfl⟩|⟨id,hid0,hid,rfl⟩
 ·clear hm0
  go_upto_region 3 with fail
  have HL3:Sc (Q8 (Q1 S) (Q1 S1) w1 (w2.alloc (.cells #[.int .i64 0,.int .i64 0,.int .i64 0,.int .i64 0] 58))):=⟨Part.Qs HL1.o (Q3 (Below.refl _ _) _)⟩
  obtain⟨w3,hw3⟩:∃w3,w2.alloc (.cells #[.int .i64 0,.int .i64 0,.int .i64 0,.int .i64 0] 58)=w3:=⟨_,rfl⟩
  rw[hw3]at HL3 ⊢
  clear hw3
  go_wp2_with fail
  refine(Yb _ 113).mono ?_
  rintro e w9 ⟨rfl,hb9⟩
  have HL9:=Q0 (Part.Qs HL3.o hb9)
  obtain⟨z0,z1,z2,y0,y1,y2,lz⟩:=Q7 (HBX.o w9 HL9.o.2.1)
  clear hb9
  go_wp2
  refine bodyPost_ret (v:=X5 113) (by simp[results,Tryz.results63,go_sem,z0,z1,z2]) rfl ⟨⟨113,rfl⟩,S1,?_,HSB1.o.2.2.2.1,HC1.o,by rw[HSB1.o.2.1,HSB1.o.2.2.1];exact HOK.o⟩
  refine Part.boxed (A:=Q1 S) HZ0.o HB1.o HL9.o ?_
  have e1:=HBS.o
  have e2:=HB4.o
  repeat (first|with_reducible exact Kp.Vd|with_reducible refine Kp.drew ?_|with_reducible refine Kp.put ?_ ⟨by omega,by omega⟩ _)
 ·have HID:=Q0 (And.intro hid0 hid)
  clear hid0 hid
  go_upto_region 4 with fail
  obtain⟨xt,hxt⟩:∃xt,got S.T.tx id=xt:=⟨_,rfl⟩
  have HXT:=Q0 hxt
  rw[hxt]
  have HL3:Sc (Q8 (Q1 S) (Q1 S1) w1 (w2.alloc (.cells #[.int .i64 xt.1,.int .i64 xt.2.1,.int .i64 xt.2.2.1,.int .i64 xt.2.2.2] 58))):=⟨Part.Qs HL1.o (Q3 (Below.refl _ _) _)⟩
  have HN3:=heap_alloc_new w2 (.cells #[.int .i64 xt.1,.int .i64 xt.2.1,.int .i64 xt.2.2.1,.int .i64 xt.2.2.2] 58)
  have HU5:¬(Q1 S1).U w2.heap.size:=fun hu=>by have:=(Q1 S1).lt HL1.o.1 _ hu;omega
  obtain⟨w3,hw3⟩:∃w3,w2.alloc (.cells #[.int .i64 xt.1,.int .i64 xt.2.1,.int .i64 xt.2.2.1,.int .i64 xt.2.2.2] 58)=w3:=⟨_,rfl⟩
  obtain⟨b5,hb5⟩:∃b5,w2.heap.size=b5:=⟨_,rfl⟩
  rw[hw3]at HL3 HN3 ⊢
  rw[hb5]at HN3 HU5
  try rw[hb5]
  have HN3:=Q0 HN3
  have HU5:Sc (¬(Q1 S1).U b5/\b5<w3.heap.size/\w1.heap.size<=b5):=⟨HU5,Q6 HN3.o,by rw[<-hb5];exact HL1.o.2.1.size⟩
  clear hw3 hxt hb5
  obtain⟨_,_,_,c5,_,_,c11,lt⟩:=HL3.o.1.sto.cells
  rw[HSB1.o.1]at c5 c11 lt
  obtain⟨lb,hlb⟩:∃lb,S1.T.lb=lb:=⟨_,rfl⟩
  have HLB:=Q0 hlb
  rw[hlb]at c5
  have CC:Sc (∀X,Below w3.heap.size w3 X->Calls Tryz.prog 105 #[.pointer (some ⟨lb,0,none⟩),.int .i64 xt.2.2.2] X fun e w'=>∃A m c,e=.returned (.tuple #[.slice A m c,X5 0])/\m<=1000/\Below w3.heap.size w3 w'/\Below X.heap.size X w'):=⟨fun X hX=>by
   have h1:=X0i X S1 id ((Q1 S1).bel HL3.o.1 hX) (by rw[HSB1.o.2.1,HSB1.o.2.2.1];exact HOK.o.Yc)
   rw[hlb,HSB1.o.2.2.2.2.1,HXT.o]at h1
   refine h1.mono ?_
   rintro e w' ⟨v,l,he,ho,hlen,hb⟩
   obtain⟨A,c,rfl,_,_⟩:=ho.slice
   exact⟨A,l.length,c,he,hlen,Q5 hX hb,hb⟩⟩
  obtain⟨x0,x1,x2,x3,_,_,_,_,lx⟩:=Qz HN3.o
  have HH:=Q0 (heap_alloc_new w3 (.cells fz 41))
  have HQ:Sc (Below w3.heap.size w3 w3):=⟨Below.refl _ _⟩
  clear hlb
  go_cut [7,8] from 22 to 31 (fun s7 s8 wx=>∃b8 A m c,s7=.slice A m c/\s8=.pointer (some ⟨b8,0,none⟩)/\m<=1000/\w3.heap.size<=b8/\Sc (wx.heap[b8]? =some (.cells fz 41 (0,0)))/\Sc (Below w3.heap.size w3 wx))
  case first=>
   go_region_law
    (first
     |(go_simp;go_at_call 105;go_loud (refine(CC.o _ (by first|with_reducible exact HQ.o|with_reducible exact Below.drew HQ.o|with_reducible exact Q3 HQ.o _|with_reducible exact Below.drew (Q3 HQ.o _))).mono ?_;rintro e wt ⟨A,m,c,rfl,hm,hq,hq2⟩;have HQ:=Q0 hq;(try have HN:=Q0 (up hq2 HH.o));(try obtain⟨n0,n1,n2,m0,m1,m2,ln⟩:=Q7 (up hq2 HH.o));clear hq hq2)))
   all_goals
    go_wp2_with fail
    go_meet
    case rel=>
     first
      |exact⟨_,A,m,c,rfl,rfl,hm,HQ.o.size,⟨heap_alloc_new _ _⟩,⟨Q3 HQ.o _⟩⟩
      |exact⟨_,A,m,c,rfl,rfl,hm,Nat.le_refl _,⟨J6 HN.o⟩,⟨((HQ.o.setCell (Nat.le_refl _) _).setCell (Nat.le_refl _) _).setCell (Nat.le_refl _) _⟩⟩
  case rest=>
   obtain⟨b8,A,m,c,rfl,rfl,hm,hb8,HN8,HBX8⟩:=hcut
   obtain⟨w4,rfl⟩:∃w4,w4=wc:=⟨_,rfl⟩
   have HL4:=Q0 (Part.Qs HL3.o HBX8.o)
   have HMM:=Q0 hm
   have HU8:Sc (¬(Q1 S1).U b8/\b8<w4.heap.size/\w1.heap.size<=b8):=⟨fun hu=>by have:=(Q1 S1).lt HL3.o.1 _ hu;omega,Q6 HN8.o,Nat.le_trans HL3.o.2.1.size hb8⟩
   obtain⟨q0,q1,q2,_,_,_,lq⟩:=Q7 HN8.o
   have lt4:sb<w4.heap.size:=by have:=HBX8.o.size;omega
   have c11':=(HBX8.o.cell lt).trans c11
   clear hm hb8 c5 c11 lt x0 x1 x2 x3 lx
   go_wp2_with fail
   refine(Yf w4).mono ?_
   rintro e w5 ⟨rfl,hb5⟩
   have HB5:=Q0 hb5
   have HL5:=Q0 (Part.Qs HL4.o hb5)
   have CSP:=Q0 (E9 w5 S1 1 HL5.o.1 (by omega) (by omega))
   have c11:=(hb5.cell lt4).trans c11'
   have lt5:sb<w5.heap.size:=by have:=hb5.size;omega
   clear c11' hb5 q0 q1 q2 lq lt4
   go_wp2_with fail
   refine CSP.o.mono ?_
   rintro e w6 ⟨bo,k2,rfl,hk2,hl6⟩
   obtain⟨S2,hS2⟩:∃S2,S1.space S1.f k2=S2:=⟨_,rfl⟩
   have HS2:=Q0 hS2
   rw[hS2]at hl6
   have HL6:=Q0 (Part.trans HL5.o hl6)
   have HK2:=Q0 hk2
   have HSB2:Sc (S2.T=S1.T/\S2.P=S.P/\S2.abs=S.abs):=⟨by rw[<-hS2];exact⟨rfl,HSB1.o.2.2.1,HSB1.o.2.1⟩⟩
   have HC2:Sc (Cnt S2 k v):=⟨by rw[<-hS2];exact⟨HC1.o.Qu,HC1.o.lk,HC1.o.wt,HC1.o.tx,HC1.o.most,HC1.o.vm,by have:=HC1.o.sp;show S1.f+k2<=400;omega,HC1.o.small,HC1.o.sav,HC1.o.md⟩⟩
   have hk6:=hl6.2.1
   have HN6:Sc (w6.heap[b5]? =some (.cells #[.int .i64 xt.1,.int .i64 xt.2.1,.int .i64 xt.2.2.1,.int .i64 xt.2.2.2] 58 (0,0))):=⟨hk6.at (up HB5.o (up HBX8.o HN3.o)) HU5.o.1⟩
   have HN68:Sc (w6.heap[b8]? =some (.cells fz 41 (0,0))):=⟨hk6.at (up HB5.o HN8.o) HU8.o.1⟩
   have HU6:Sc (¬(Q1 S2).U b5/\¬(Q1 S2).U b8):=⟨fun hu=>(hl6.2.2 _ hu).elim HU5.o.1 (fun hn=>by have:=HU5.o.2.1;have:=HBX8.o.size;have:=HB5.o.size;omega),fun hu=>(hl6.2.2 _ hu).elim HU8.o.1 (fun hn=>by have:=HU8.o.2.1;have:=HB5.o.size;omega)⟩
   obtain⟨_,_,_,c5,_,_,_,lt6⟩:=HL6.o.1.sto.cells
   rw[HSB2.o.1,HSB1.o.1]at c5 lt6
   rw[HLB.o]at c5
   have CAP:Sc (∀X,Below w6.heap.size w6 X->Calls Tryz.prog 26 #[.pointer (some ⟨lb,0,none⟩),.agg #[.int .i64 4,.int .i64 xt.1,.int .i64 0,.int .i64 xt.2.2.1,.int .i64 0,.int .i64 0,.bool false,.bool false,.int .i64 0,.int .i64 0]] X fun e w'=>∃a c:Int,e=.returned (.tuple #[.int .i64 a,.int .i64 c])/\Q0w S2 (recC xt.1 xt.2.2.1) a c w6 w'):=⟨fun X hX=>by
    have:=O0 w6 X S2 (recC xt.1 xt.2.2.1) HL6.o.1 hX
    rw[HSB2.o.1,HLB.o]at this
    exact this⟩
   obtain⟨x0,x1,x2,x3,_,_,_,_,lx⟩:=Qz HN6.o
   have HR:Sc (Below w6.heap.size w6 w6):=⟨Below.refl _ _⟩
   clear hl6 hS2 hk2 hk6 c11 lt5
   go_upto_region 8 with fail
   go_region_law
    (first
     |(go_simp;go_at_call 26;go_loud (refine(CAP.o _ (by first|with_reducible exact HR.o|with_reducible exact Below.drew HR.o)).mono ?_;rintro e w7 ⟨a7,e7,rfl,ha7⟩;have HA7:=Q0 ha7;clear ha7)))
   all_goals
    clear c5 lt6 x0 x1 x2 x3 lx
    rcases HA7.o with ⟨hgl,rfl,rfl,row7,hl7⟩|⟨hgl,rfl,hc0,row7,hl7⟩
    ·have HGL:=Q0 hgl
     obtain⟨S3,hS3⟩:∃S3,S2.Xg row7 (S2.P.L++[recC xt.1 xt.2.2.1])=S3:=⟨_,rfl⟩
     have HS3:=Q0 hS3
     rw[hS3]at hl7
     have HL7:=Q0 (Part.trans HL6.o hl7)
     have HT3:Sc (S3.T=S1.T/\S3.P.D.vm=S.P.D.vm/\S3.P.L=S.P.L++[recC xt.1 xt.2.2.1]):=⟨by rw[<-hS3];exact⟨HSB2.o.1,by show S2.P.D.vm=_;rw[HSB2.o.2.1],by show S2.P.L++_=_;rw[HSB2.o.2.1]⟩⟩
     have HX:Sc (xt∈S.T.tx/\S.T.X1[n]? =some xt.1/\S.P.L.length<6*S.P.bl):=⟨by
      have hl:=hgl.2
      rw[HSB2.o.2.1]at hl
      obtain⟨hv1,_⟩:=HOK.o.live.resolve_left (by show ¬(6*S.P.bl<=S.P.L.length);omega)
      have hh:has S.T.tx id=true:=(hv1.X1 n id HID.o.2).resolve_left HID.o.1
      obtain⟨x,hx,he⟩:=Qy.1 hh
      have hg:=(Z3 (show Qd S.T.tx from HOK.o.Yc.Je) hx).2.2
      rw[he,HXT.o]at hg
      subst hg
      exact⟨hx,by rw[he];exact HID.o.2,hl⟩⟩
     obtain⟨lsn,hlsn⟩:∃lsn,(S2.P.L.length:Int)+1=lsn:=⟨_,rfl⟩
     have HLSN:Sc ((S.P.L.length:Int)+1=lsn):=⟨by rw[<-hlsn,HSB2.o.2.1]⟩
     rw[hlsn]
     obtain⟨_,_,_,c5,_,_,_,lt7⟩:=HL7.o.1.sto.cells
     rw[HT3.o.1,HSB1.o.1]at c5 lt7
     rw[HLB.o]at c5
     have CFL:Sc (Calls Tryz.prog 107 #[.pointer (some ⟨lb,0,none⟩)] w7 fun e w'=>e=.returned (.int .i64 0)/\∃P',Q8 (Q1 S3) (Q1 {S3 with P:=P'}) w7 w'/\G5 S3.P P'/\P'.O=S3.P.O/\P'.D.vm<=S3.P.D.vm):=⟨by
      have:=X0k w7 S3 HL7.o.1 (by rw[HT3.o.2.1];have:=HC.o.vm;have:=HV.o;omega)
      rw[show S3.T.lb=lb from by rw[HT3.o.1,HLB.o]]at this
      exact this⟩
     have H67:=Q0 hl7
     clear hl7 hS3 hgl hlsn
     go_wp2_with fail
     refine CFL.o.mono ?_
     rintro e w8 ⟨rfl,P8,hl8,hs8,ho8,hv8⟩
     obtain⟨S4,hS4⟩:∃S4:WG,{S3 with P:=P8}=S4:=⟨_,rfl⟩
     have HS4:=Q0 hS4
     rw[hS4]at hl8
     have HL8:=Q0 (Part.trans HL7.o hl8)
     have H68:=Q0 (Part.trans H67.o hl8)
     have HT4:Sc (S4.T=S1.T/\S4.abs=S.abs.grow (recC xt.1 xt.2.2.1)/\S4.P.pages=S.P.pages/\S4.P.bl=S.P.bl):=⟨by
      have hA:S1.abs=S.abs:=HSB1.o.2.1
      have hP:S2.P=S.P:=HSB2.o.2.1
      have hT:S2.T=S1.T:=HSB2.o.1
      rw[<-hS4,<-HS3.o]at*
      refine⟨hT,?_,hs8.pages.trans (by show S2.P.pages=_;rw[hP]),hs8.bl.trans (by show S2.P.bl=_;rw[hP])⟩
      have e1:P8.L=S.P.L++[recC xt.1 xt.2.2.1]:=hs8.L.trans (by show S2.P.L++_=_;rw[hP])
      have e2:P8.pv=S.P.pv:=hs8.pv.trans (by show S2.P.pv=_;rw[hP])
      have e3:P8.O.tab=S.P.O.tab:=by rw[ho8];show S2.P.O.tab=_;rw[hP]
      show(⟨P8.L,S2.T.tx,S2.T.most,S2.T.lk,S2.T.X1,P8.pv,P8.O.tab,S2.T.ck⟩:Abs)=_
      rw[e1,e2,e3,hT]
      have e4:S1.T.tx=S.T.tx:=congrArg Abs.tx hA
      have e5:S1.T.most=S.T.most:=congrArg Abs.most hA
      have e6:S1.T.lk=S.T.lk:=congrArg Abs.lk hA
      have e7:S1.T.X1=S.T.X1:=congrArg Abs.X1 hA
      have e8:S1.T.ck=S.T.ck:=congrArg Abs.ck hA
      rw[e4,e5,e6,e7,e8]
      rfl⟩
     have HC4:Sc (Cnt S4 k v):=⟨by
      have h2:=HC2.o
      rw[<-hS4]
      rw[<-HS3.o]at hv8 ⊢
      exact⟨h2.Qu,h2.lk,h2.wt,h2.tx,h2.most,Nat.le_trans hv8 h2.vm,h2.sp,h2.small,h2.sav,h2.md⟩⟩
     have CE:Sc (Calls Tryz.prog 108 #[.pointer (some ⟨sb,0,none⟩),.int .i64 n,.agg #[.int .i64 xt.1,.int .i64 xt.2.1,.int .i64 xt.2.2.1,.int .i64 xt.2.2.2],.int .i64 lsn] w8 fun e w'=>∃ce S',e=.returned (X5 ce)/\Q8 (Q1 S4) (Q1 S') w8 w'/\Kept S4.T S'.T/\Cnt S' k v/\Ok S'.P.pages (6*S'.P.bl) S'.abs):=⟨by
      have:=Q6h w8 S S4 n k v xt HL8.o.1 hn8 HC4.o HOK.o HX.o.2.2 HZ0.o.X2.plain.blk HX.o.1 HGL.o.1 HX.o.2.1 HT4.o.2.1 HT4.o.2.2.1 HT4.o.2.2.2
      rw[HLSN.o,HT4.o.1,HSB1.o.1]at this
      rw[HT4.o.1]
      exact this⟩
     obtain⟨x0,x1,x2,x3,_,_,_,_,lx⟩:=Qz (H68.o.2.1.at HN6.o HU6.o.1)
     have lb8:=Q6 (H68.o.2.1.at HN68.o HU6.o.2)
     clear hl8 hS4 hs8 ho8 hv8 c5 lt7
     go_wp2_with fail
     refine CE.o.mono ?_
     rintro e w9 ⟨ce,S5,rfl,hl9,hk9,hc9,ho9⟩
     have H69:=Q0 (Part.trans H68.o hl9)
     have HL9:=Q0 (Part.trans HL8.o hl9)
     have HE9:=Q0 (And.intro hk9 (And.intro hc9 ho9))
     have HN9:Sc (w9.heap[b8]? =some (.cells fz 41 (0,0))):=⟨H69.o.2.1.at HN68.o HU6.o.2⟩
     have HU9:Sc (¬(Q1 S5).U b8):=⟨fun hu=>(H69.o.2.2 _ hu).elim HU6.o.2 (fun hn=>by have:=Q6 HN68.o;omega)⟩
     obtain⟨q0,q1,q2,y0,y1,y2,lq⟩:=Q7 HN9.o
     clear hl9 hk9 hc9 ho9 x0 x1 x2 x3 lx lb8
     go_upto_region 15 with fail
     obtain⟨w10,hw10⟩:∃w10,((w9.setCell ⟨b8,0,none⟩ (.int .i64 ce)).setCell ⟨b8,1,none⟩ (.bool false)).setCell ⟨b8,2,none⟩ (.int .i64 0)=w10:=⟨_,rfl⟩
     have HL10:Sc (Q8 (Q1 S) (Q1 S5) w1 w10):=⟨by rw[<-hw10];exact Part.aside HL9.o De HU8.o.2.2 HU9.o⟩
     have HN10:Sc (w10.heap[b8]? =some (.cells #[.int .i64 ce,.bool false,.int .i64 0] 41 (0,0))):=⟨by rw[<-hw10];exact J6 HN9.o⟩
     rw[hw10]
     have HK5:Sc (S5.T.sb=sb):=⟨by rw[HE9.o.1.sb,HT4.o.1,HSB1.o.1]⟩
     obtain⟨_,_,_,_,_,_,c11,lt10⟩:=HL10.o.1.sto.cells
     rw[HK5.o]at c11 lt10
     have hm0:(0:Int)<=m:=by omega
     have CLT:=Q0 (Y3u w10 S5 m HL10.o.1 hm0 (by have:=HMM.o;omega) (by have:=HE9.o.2.1.sp;have:=HL10.o.1.spa.k0;have:=HMM.o;omega))
     clear hw10 q0 q1 q2 y0 y1 y2 lq
     go_wp2_with fail
     refine CLT.o.mono ?_
     rintro e w11 ⟨bo2,f11,k11,rfl,hs11,hl11⟩
     have HS11:=Q0 hs11
     have HL11:=Q0 (Part.trans HL10.o hl11)
     obtain⟨q0,q1,q2,_,_,_,lq⟩:=Q7 (hl11.2.1.at HN10.o HU9.o)
     obtain⟨z0,z1,z2,y0,y1,y2,lz⟩:=Q7 (HBX.o w11 HL11.o.2.1)
     clear hl11 hs11 c11 lt10
     go_wp2
     refine bodyPost_ret (v:=X5 ce) (by simp[results,Tryz.results63,go_sem,z0,z1,z2]) rfl ⟨⟨ce,rfl⟩,S5.space f11 k11,?_,?_,?_,?_⟩
     ·refine Part.boxed (A:=Q1 S) HZ0.o HB1.o HL11.o ?_
      have e1:=HBS.o
      have e2:=HB4.o
      repeat (first|with_reducible exact Kp.Vd|with_reducible refine Kp.drew ?_|with_reducible refine Kp.put ?_ ⟨by omega,by omega⟩ _)
     ·have h1:=HE9.o.1
      rw[HT4.o.1]at h1
      have h0:=HSB1.o.2.2.2.1
      exact⟨h1.sb.trans h0.sb,h1.pb.trans h0.pb,h1.db.trans h0.db,h1.lb.trans h0.lb,h1.spb.trans h0.spb,h1.pages.trans h0.pages,h1.bl.trans h0.bl,h1.Xf.trans h0.Xf,h1.Qu.trans h0.Qu⟩
     ·have h1:=HE9.o.2.1
      exact⟨h1.Qu,h1.lk,h1.wt,h1.tx,h1.most,h1.vm,by have:=HS11.o;have:=h1.sp;show f11+k11<=400;omega,h1.small,h1.sav,h1.md⟩
     ·exact HE9.o.2.2
    ·have e0:(e7 !=0)=true:=by simp[hc0]
     have HL7:=Q0 (Part.trans HL6.o hl7)
     clear hl7 hgl hc0
     go_wp2_with fail
     refine(Yb _ e7).mono ?_
     rintro e w8 ⟨rfl,hb8⟩
     have HL8:=Q0 (Part.Qs HL7.o hb8)
     obtain⟨z0,z1,z2,y0,y1,y2,lz⟩:=Q7 (HBX.o w8 HL8.o.2.1)
     clear hb8
     go_wp2
     refine bodyPost_ret (v:=X5 e7) (by simp[results,Tryz.results63,go_sem,z0,z1,z2]) rfl ⟨⟨e7,rfl⟩,S2.Xg row7 S2.P.L,?_,?_,?_,?_⟩
     ·refine Part.boxed (A:=Q1 S) HZ0.o HB1.o HL8.o ?_
      have e1:=HBS.o
      have e2:=HB4.o
      repeat (first|with_reducible exact Kp.Vd|with_reducible refine Kp.drew ?_|with_reducible refine Kp.put ?_ ⟨by omega,by omega⟩ _)
     ·show Kept S.T S2.T
      rw[HSB2.o.1];exact HSB1.o.2.2.2.1
     ·exact⟨HC2.o.Qu,HC2.o.lk,HC2.o.wt,HC2.o.tx,HC2.o.most,HC2.o.vm,HC2.o.sp,HC2.o.small,HC2.o.sav,HC2.o.md⟩
     ·show Ok S2.P.pages (6*S2.P.bl) S2.abs
      rw[HSB2.o.2.2,HSB2.o.2.1];exact HOK.o
end Go.Proofs.YtoapihepdallbaaGreatDoor
