import Derived.Test.YtoapihepdallbaaGreatDoorP35
namespace Go.Proofs.YtoapihepdallbaaGreatDoor
open Go.RowKit
set_option maxRecDepth 4000 in
set_option maxHeartbeats 4000000 in
theorem Uc(w:World)(S:WG)(n k v hint:Nat)(c:Int)(h:Qh S w)(hn:n<S.T.Qu)(hc:Cnt S k v)(hv:v<=600000)(hok:Ok S.P.pages (6*S.P.bl) S.abs)(hh:hint<=1000000):
  Calls Tryz.prog 99 #[.pointer (some ⟨S.T.sb,0,none⟩),.int .i64 n,.int .i64 hint,X5 c] w fun e w'=>(∃c',e=.returned (X5 c'))/\∃S',Yn S S' k (v+400) w w':=by
 have HZ0:=Q0 h
 have HC:=Q0 hc
 have HOK:=Q0 hok
 obtain⟨w1,hw1⟩:∃w1,(w.alloc (.cells #[.int .i64 c,.bool false,.int .i64 0] 41)).alloc (.cells fz 41)=w1:=⟨_,rfl⟩
 have HB1:Sc (Below w.heap.size w w1):=⟨hw1▸Q3 (Q3 (Below.refl _ _) _) _⟩
 have H2:=Ym w (.cells #[.int .i64 c,.bool false,.int .i64 0] 41) (.cells fz 41)
 rw[hw1]at H2
 have HZ:Sc (Qh S w1):=⟨(Q1 S).bel h HB1.o⟩
 have HBS:Sc (w1.heap.size=w.heap.size+2):=⟨by rw[<-hw1];simp⟩
 obtain⟨b7,hb7⟩:∃b,w.heap.size=b:=⟨_,rfl⟩
 have HB7:=Q0 hb7
 rw[hb7]at H2
 have H2:=Q0 H2
 have HNO:Sc (∀q,b7<=q->¬(Q1 S).U q):=⟨fun q hq hu=>by have:=(Q1 S).lt HZ0.o _ hu;have:=HB7.o;omega⟩
 have HBX:Sc (∀W,Kp (Q1 S).U w1 W->W.heap[b7]? =some (.cells #[.int .i64 c,.bool false,.int .i64 0] 41 (0,0))/\W.heap[b7+1]? =some (.cells fz 41 (0,0))):=⟨fun W hk=>⟨hk.at H2.o.1 (HNO.o _ (Nat.le_refl _)),hk.at H2.o.2 (HNO.o _ (by omega))⟩⟩
 have CAB:=Q0s w1 S n k v hint HZ.o hn hc hv hok hh
 obtain⟨sb,hsb⟩:∃sb,S.T.sb=sb:=⟨_,rfl⟩
 have HSB:=Q0 hsb
 rw[hsb]at CAB ⊢
 have CAB:=Q0 CAB
 obtain⟨c0,c1,c2,f0,f1,f2,lc⟩:=Q7 H2.o.1
 clear h hn hc hv hok hh hsb
 go_enter Tryz.func99,Tryz.ntmps99
 by_cases hab:c=112\/c=109
 ·have hfst:(c==112)=true\/((c==112)=false/\(c==109)=true):=by
   rcases hab with rfl|rfl
   ·exact .inl rfl
   ·exact .inr ⟨rfl,rfl⟩
  clear hab
  rcases hfst with e0|⟨e0,e1⟩
  all_goals
   go_wp2_with fail
   try rw[hw1]
   try rw[hb7]
   clear hw1 hb7 c0 c1 c2 f0 f1 f2 lc
   refine CAB.o.mono ?_
   rintro e w2 ⟨⟨ca,rfl⟩,S1,hd⟩
   have HD:=Q0 hd
   have HU1:Sc (¬(Q1 S1).U (b7+1)/\b7+1<w2.heap.size):=⟨fun hu=>(hd.leaves.2.2 _ hu).elim (HNO.o _ (by omega)) (fun hn=>by have:=HBS.o;have:=HB7.o;omega),by have:=hd.leaves.2.1.size;have:=HBS.o;have:=HB7.o;omega⟩
   clear hd
   go_upto_region 3 with fail
   obtain⟨w3,hw3⟩:∃w3,w2.alloc (.cells #[.int .i64 ca,.bool false,.int .i64 0] 41)=w3:=⟨_,rfl⟩
   obtain⟨b9,hb9⟩:∃b9,w2.heap.size=b9:=⟨_,rfl⟩
   have HL3:Sc (Q8 (Q1 S) (Q1 S1) w1 w3):=⟨by rw[<-hw3];exact Part.Q4p HD.o.leaves _⟩
   have HN3:Sc (w3.heap[b9]? =some (.cells #[.int .i64 ca,.bool false,.int .i64 0] 41 (0,0))):=⟨by rw[<-hw3,<-hb9];exact heap_alloc_new _ _⟩
   rw[hw3]
   try rw[hb9]
   clear hw3 hb9
   obtain⟨p0,p1,p2,_,_,_,lp⟩:=Q7 HN3.o
   by_cases hca:ca=0
   ·subst hca
    go_wp2_with fail
    refine(Yf w3).mono ?_
    rintro e w4 ⟨rfl,hb4⟩
    have HL4:=Q0 (Part.Qs HL3.o hb4)
    obtain⟨hx0,hx1⟩:=HBX.o w4 HL4.o.2.1
    obtain⟨c0,c1,c2,f0,f1,f2,lc⟩:=Q7 hx0
    obtain⟨z0,z1,z2,y0,y1,y2,lz⟩:=Q7 hx1
    clear hb4 p0 p1 p2 lp hx0 hx1
    go_wp2
    refine bodyPost_ret (v:=X5 c) (by simp[results,Tryz.results99,go_sem,z0,z1,z2]) rfl ⟨⟨c,rfl⟩,S1,?_,HD.o.kept,HD.o.cnt,HD.o.ok⟩
    have e3:=HB7.o
    have hu:=HU1.o.1
    have hl:=Part.from_ HL4.o HB1.o
    repeat (first|with_reducible exact hl|with_reducible refine Part.drew ?_|with_reducible refine Part.Y9 ?_ (by omega) hu)
   ·have HCA:=Q0 hca
    clear hca
    go_wp2_with fail
    refine(Z0 w3 ca HCA.o).mono ?_
    rintro e w4 ⟨rfl,hb4⟩
    have HL4:=Q0 (Part.Qs HL3.o hb4)
    have hn4:=up hb4 HN3.o
    obtain⟨hx0,hx1⟩:=HBX.o w4 HL4.o.2.1
    clear p0 p1 p2 lp
    obtain⟨p0,p1,p2,_,_,_,lp⟩:=Q7 hn4
    obtain⟨z0,z1,z2,y0,y1,y2,lz⟩:=Q7 hx1
    clear hb4 hx0 hx1 hn4
    go_wp2
    refine bodyPost_ret (v:=X5 ca) (by simp[results,Tryz.results99,go_sem,z0,z1,z2]) rfl ⟨⟨ca,rfl⟩,S1,?_,HD.o.kept,HD.o.cnt,HD.o.ok⟩
    have e3:=HB7.o
    have hu:=HU1.o.1
    have hl:=Part.from_ HL4.o HB1.o
    repeat (first|with_reducible exact hl|with_reducible refine Part.drew ?_|with_reducible refine Part.Y9 ?_ (by omega) hu)
 ·have e0:(c==112)=false:=by simp;omega
  have e1:(c==109)=false:=by simp;omega
  obtain⟨z0,z1,z2,y0,y1,y2,lz⟩:=Q7 H2.o.2
  clear hab
  go_upto_region 1 with fail
  try rw[hw1]
  try rw[hb7]
  clear hw1 hb7
  go_wp2_with fail
  refine bodyPost_ret (v:=X5 c) (by simp[results,Tryz.results99,go_sem,z0,z1,z2]) rfl ⟨⟨c,rfl⟩,S,?_,Kept.refl _,HC.o.upv (by omega),HOK.o⟩
  have e3:=HB7.o
  have hu:=HNO.o (b7+1) (by omega)
  have hl:Q8 (Q1 S) (Q1 S) w w1:=Part.same (A:=Q1 S) HZ0.o HB1.o
  repeat (first|with_reducible exact hl|with_reducible refine Part.drew ?_|with_reducible refine Part.Y9 ?_ (by omega) hu)
section
set_option maxHeartbeats 4000000
theorem Qh.Q3y{S:WG}{P':X9}{w w':World}{k v:Nat}(h:Qh S w)(hc:Cnt S k v)(hok:Ok S.P.pages (6*S.P.bl) S.abs)(hl:Q8 (Qa S.P) (Qa P') w w')(hcm:Calm S.P P' 1):Yn S {S with P:=P'} k (v+1) w w':=by
 refine⟨h.Uj hl hcm.same,Kept.refl _,(hc.upv (Nat.le_succ v)).X2 (by have:=hcm.vm;have:=hc.vm;omega),?_⟩
 have he:({S with P:=P'}:WG).abs={S.abs with lk:=S.T.lk,tab:=P'.O.tab}:=by
  unfold WG.abs
  show(⟨P'.L,_,_,_,_,P'.pv,_,_⟩:Abs)=_
  rw[hcm.same.L,hcm.same.pv]
 rw[he]
 show Ok P'.pages (6*P'.bl) _
 rw[hcm.same.pages,hcm.same.bl]
 exact hok.idle (fun _ _ h=>h) hcm.tab
theorem Yn.same{S:WG}{w w':World}{k v v':Nat}(h:Qh S w)(hc:Cnt S k v)(hok:Ok S.P.pages (6*S.P.bl) S.abs)(hv:v<=v')(hb:Below w.heap.size w w'):Yn S S k v' w w':=
 ⟨Part.same (A:=Q1 S) h hb,Kept.refl _,hc.upv hv,hok⟩
theorem X2h(w:World)(S:WG)(n k v:Nat)(h:Qh S w)(hc:Cnt S k v)(hv:v<=700000)(hok:Ok S.P.pages (6*S.P.bl) S.abs):
  Calls Tryz.prog 66 #[.pointer (some ⟨S.T.pb,0,none⟩),.int .i64 n] w fun e w'=>(∃c,e=.returned (.int .i64 c))/\∃S',Yn S S' k (v+1) w w':=by
 rw[h.pp]
 refine(O4 w S.P n h.X2 (by have:=hc.vm;omega)).mono ?_
 rintro e w' ⟨he,P',hl,hf⟩
 exact⟨⟨0,he⟩,_,h.Q3y hc hok hl hf.calm⟩
theorem Q4s(w:World)(S:WG)(k v:Nat)(h:Qh S w)(hc:Cnt S k v)(hv:v<=700000)(hok:Ok S.P.pages (6*S.P.bl) S.abs):
  Calls Tryz.prog 67 #[.pointer (some ⟨S.T.pb,0,none⟩)] w fun e w'=>(∃c,e=.returned (.int .i64 c))/\∃S',Yn S S' k (v+1) w w':=by
 rw[h.pp]
 refine(Q1j w S.P h.X2 (by have:=hc.vm;omega)).mono ?_
 rintro e w' ⟨he,P',hl,hf⟩
 exact⟨⟨0,he⟩,_,h.Q3y hc hok hl (hf.mono (Nat.zero_le 1))⟩
theorem Q4v(w:World)(P:X9)(hint:Nat)(h:Ya P w)(h0:P.O.fr.length=0):
  Calls Tryz.prog 68 #[.pointer (some ⟨P.O.pb,0,none⟩),.int .i64 hint] w fun e w'=>e=.returned (.int .i64 0)/\w=w':=by
 obtain⟨A,c,v,_,_,c0,c1,c2,c3,c4,lt,_⟩:=h.cells
 rw[h0]at c3
 obtain⟨pb,hpb⟩:∃pb,P.O.pb=pb:=⟨_,rfl⟩
 rw[hpb]at c0 c1 c2 c3 c4 lt ⊢
 clear h hpb h0
 go_enter Tryz.func68,Tryz.ntmps68
 go_wp2
 go_ret
 exact⟨rfl,rfl⟩
theorem X2g(w:World)(S:WG)(hint k v:Nat)(h:Qh S w)(hc:Cnt S k v)(hv:v<=700000)(hok:Ok S.P.pages (6*S.P.bl) S.abs)(hh:hint<=1000000):
  Calls Tryz.prog 68 #[.pointer (some ⟨S.T.pb,0,none⟩),.int .i64 hint] w fun e w'=>(∃c,e=.returned (.int .i64 c))/\∃S',Yn S S' k (v+1) w w':=by
 rw[h.pp]
 by_cases h0:S.P.O.fr.length=0
 ·refine(Q4v w S.P hint h.X2 h0).mono ?_
  rintro e w' ⟨he,rfl⟩
  exact⟨⟨0,he⟩,S,Yn.same h hc hok (Nat.le_succ v) (Below.refl _ _)⟩
 ·refine(Ds w S.P hint h.X2 (by have:=hc.vm;omega) (by omega) hh).mono ?_
  rintro e w' ⟨he,P',hl,hf,_⟩
  exact⟨⟨0,he⟩,_,h.Q3y hc hok hl hf⟩
set_option maxRecDepth 4000 in
theorem Q2y(w:World)(S:WG)(n hint k v:Nat)(h:Qh S w)(hc:Cnt S k v)(hv:v<=700000)(hok:Ok S.P.pages (6*S.P.bl) S.abs)(hn:n<=1000000)(hh:hint<=1000000):
  Calls Tryz.prog 69 #[.pointer (some ⟨S.T.sb,0,none⟩),.int .i64 n,.int .i64 hint] w fun e w'=>(∃c,e=.returned (X5 c))/\∃S',Yn S S' k (v+1) w w':=by
 have HZ0:=Q0 h
 have HC:=Q0 hc
 have HOK:=Q0 hok
 obtain⟨w1,hw1⟩:∃w1,w.alloc (.cells fz 41)=w1:=⟨_,rfl⟩
 have HB1:Sc (Below w.heap.size w w1):=⟨hw1▸Q3 (Below.refl _ _) _⟩
 have HBS:Sc (w1.heap.size=w.heap.size+1):=⟨by rw[<-hw1];simp⟩
 have HN1:Sc (w1.heap[w.heap.size]? =some (.cells fz 41 (0,0))):=⟨by rw[<-hw1];exact heap_alloc_new _ _⟩
 have HZ:Sc (Qh S w1):=⟨(Q1 S).bel h HB1.o⟩
 obtain⟨b6,hb6⟩:∃b,w.heap.size=b:=⟨_,rfl⟩
 have HB6:=Q0 hb6
 rw[hb6]at HN1
 have HNO:Sc (¬(Q1 S).U b6):=⟨fun hu=>by have:=(Q1 S).lt HZ0.o _ hu;have:=HB6.o;omega⟩
 obtain⟨sb,hsb⟩:∃sb,S.T.sb=sb:=⟨_,rfl⟩
 obtain⟨pb,hpb⟩:∃pb,S.T.pb=pb:=⟨_,rfl⟩
 obtain⟨pages,hpages⟩:∃pages:Nat,S.P.pages=pages:=⟨_,rfl⟩
 have HPG:=Q0 hpages
 have HPB:=Q0 hpb
 have HHN:=Q0 (And.intro hv hh)
 obtain⟨c0,_,_,_,c6,_,_,lt⟩:=HZ.o.sto.cells
 rw[hsb]at c0 c6 lt
 rw[hpb]at c6
 rw[show S.T.pages=pages from by rw[<-hpages];exact HZ.o.pg]at c0
 rw[hsb]
 clear h hc hv hok hh hsb hpb hpages
 go_enter Tryz.func69,Tryz.ntmps69
 have hcase:(decide ((n:Int)<1)=true\/(decide ((n:Int)<1)=false/\decide (pages<n)=true))\/(decide ((n:Int)<1)=false/\decide (pages<n)=false/\1<=n/\n<=pages):=by
  by_cases h1:(n:Int)<1
  ·exact .inl (.inl (decide_eq_true h1))
  ·by_cases h2:pages<n
   ·exact .inl (.inr ⟨decide_eq_false h1,decide_eq_true h2⟩)
   ·exact .inr ⟨decide_eq_false h1,decide_eq_false h2,by omega,by omega⟩
 rcases hcase with hout|⟨e1,e2,h1,h2⟩
 ·rcases hout with e1|⟨e1,e2⟩
  all_goals
   go_upto_region 1 with fail
   try rw[hw1]
   try rw[hb6]
   clear hw1 hb6
   go_wp2_with fail
   refine(Yb _ 102).mono ?_
   rintro e w9 ⟨rfl,hb9⟩
   obtain⟨z0,z1,z2,y0,y1,y2,lz⟩:=Q7 (up hb9 HN1.o)
   have HD:Sc (Yn S S k (v+1) w w9):=⟨Yn.same HZ0.o HC.o HOK.o (Nat.le_succ v) (Q5 HB1.o hb9)⟩
   clear hb9
   go_wp2
   refine bodyPost_ret (v:=X5 102) (by simp[results,Tryz.results69,go_sem,z0,z1,z2]) rfl ⟨⟨102,rfl⟩,S,?_,HD.o.kept,HD.o.cnt,HD.o.ok⟩
   have e1:=HB6.o
   have hu:=HNO.o
   repeat (first|with_reducible exact HD.o.leaves|with_reducible refine Part.drew ?_|with_reducible refine Part.Y9 ?_ (by omega) hu)
 ·have CG:=X3x w1 S (n:Nat) hint HZ.o (by have:=HC.o.vm;have:=HHN.o.1;omega) (.inr ⟨by omega,by rw[HPG.o];omega⟩) HHN.o.2
  rw[HPB.o]at CG
  have CG:=Q0 CG
  clear h1 h2
  go_upto_region 1 with fail
  try rw[hw1]
  try rw[hb6]
  clear hw1 hb6
  go_wp2_with fail
  refine CG.o.mono ?_
  rintro e w2 ⟨P',pn,pz,pA,pk,pc,pl,bad,rfl,hg,hl2⟩
  have HL2:=Q0 (Part.from_ hl2 HB1.o)
  have HN2:=Q0 (hl2.2.1.at HN1.o HNO.o)
  have HU2:Sc (¬(Q1 ({S with P:=P'}:WG)).U b6):=⟨fun hu=>(hl2.2.2 _ hu).elim HNO.o (fun hn=>by have:=Q6 HN1.o;omega)⟩
  have HD:Sc (Kept S.T ({S with P:=P'}:WG).T/\Cnt ({S with P:=P'}:WG) k (v+1)/\Ok ({S with P:=P'}:WG).P.pages (6*({S with P:=P'}:WG).P.bl) ({S with P:=P'}:WG).abs):=⟨by
   rcases hg with ⟨_,_,rfl⟩|⟨_,hcm,_,_⟩
   ·exact⟨Kept.refl _,HC.o.upv (Nat.le_succ v),HOK.o⟩
   ·refine⟨Kept.refl _,(HC.o.upv (Nat.le_succ v)).X2 (by have:=hcm.vm;have:=HC.o.vm;omega),?_⟩
    have he:({S with P:=P'}:WG).abs={S.abs with lk:=S.T.lk,tab:=P'.O.tab}:=by
     unfold WG.abs
     show(⟨P'.L,_,_,_,_,P'.pv,_,_⟩:Abs)=_
     rw[hcm.same.L,hcm.same.pv]
    rw[he]
    show Ok P'.pages (6*P'.bl) _
    rw[hcm.same.pages,hcm.same.bl]
    exact HOK.o.idle (fun _ _ h=>h) hcm.tab⟩
  clear hg hl2 c0 c6 lt
  go_upto_region 4 with fail
  obtain⟨w3,hw3⟩:∃w3,(w2.alloc (.cells #[.int .i64 pz,.slice pA pk pc] 197)).alloc (.cells #[.int .i64 bad,.bool false,.int .i64 0] 41)=w3:=⟨_,rfl⟩
  obtain⟨b7,hb7⟩:∃b7,w2.heap.size=b7:=⟨_,rfl⟩
  have H3:=Ym w2 (.cells #[.int .i64 pz,.slice pA pk pc] 197) (.cells #[.int .i64 bad,.bool false,.int .i64 0] 41)
  have HB3:Sc (Below w2.heap.size w2 w3):=⟨by rw[<-hw3];exact Q3 (Q3 (Below.refl _ _) _) _⟩
  have HL3:=Q0 (Part.Qs HL2.o HB3.o)
  rw[hw3,hb7]at H3
  rw[hw3]
  try rw[hb7]
  clear hw3 hb7
  obtain⟨p0,p1,p2,p3,p4,p5,lp⟩:=Q7 H3.2
  obtain⟨z0,z1,z2,y0,y1,y2,lz⟩:=Q7 (up HB3.o HN2.o)
  clear H3
  go_wp2
  refine bodyPost_ret (v:=X5 bad) (by simp[results,Tryz.results69,go_sem,z0,z1,z2]) rfl ⟨⟨bad,rfl⟩,{S with P:=P'},?_,HD.o.1,HD.o.2.1,HD.o.2.2⟩
  have e1:=HB6.o
  have hu:=HU2.o
  repeat (first|with_reducible exact HL3.o|with_reducible refine Part.drew ?_|with_reducible refine Part.Y9 ?_ (by omega) hu)
end
theorem Q6f{w W wa:World}{v:Value}(hb:Below w.heap.size w W)(hg:W.grownBy wa v.ownBlock)(hv:∀q,v.ownBlock=some q->w.heap.size<=q):Below w.heap.size w wa:=
 hb.trans ⟨hg.os,hg.tape,hg.output,hg.size,fun k hk=>hg.block k (Nat.lt_of_lt_of_le hk hb.size) (fun he=>by have:=hv k he.symm;omega)⟩
theorem Qh.Y3f{S:WG}{w W wa:World}(h:Qh S w){v:Value}{n g m cap:Nat}{y:X0v}{q:Int}(hb:Below w.heap.size w W)(hv:∀q,v.ownBlock=some q->w.heap.size<=q)(hg:W.grownBy wa v.ownBlock)(hat:v.ownBlock=some g\/W.heap.size<=g)(hn:n<8)(hy:S.T.sav[n]? =some y)(hm:m=y.l.length+1)(hown:wa.ownsRow 0 3 1 (.slice (some ⟨g,0,none⟩) m cap) m (flat X6 y.l++X6 q)):
  Q8 (Q1 S) (Q1 (S.saved n ⟨some ⟨g,0,none⟩,m,cap,y.l++[q]⟩)) w (wa.setCell ⟨S.T.sb,20+n,none⟩ (.slice (some ⟨g,0,none⟩) m cap))/\S.T.sb<wa.heap.size/\wa.frozen? ⟨S.T.sb,20+n,none⟩=false/\wa.cell? ⟨S.T.sb,20+n,none⟩=some y.v:=by
 subst hm
 have hbw:=Q6f hb hg hv
 have hz:Qh S wa:=(Q1 S).bel h hbw
 have hgf:w.heap.size<=g:=by
  rcases hat with h1|h1
  ·exact hv g h1
  ·have:=hb.size;omega
 have ho:Own X6 1 3 0 wa (.slice (some ⟨g,0,none⟩) (y.l.length+1) cap) (y.l++[q]):=Own.Qv hown (by simp) (by rw[Qc,Qm])
 exact⟨h.Jn (hz.X6g (w0:=w) (x:=⟨some ⟨g,0,none⟩,y.l.length+1,cap,y.l++[q]⟩) ((Y6 S.T).lt h.sto) hbw hn hy ho (fun p hp=> .inr (by have hp:some g=some p:=hp;injection hp with hp;omega))) (Ys S.T),hz.sto.cells.2.2.2.2.2.2.2,hz.sto.frozen (20+n),hz.sto.Q5m hy⟩
set_option maxRecDepth 4000 in
set_option maxHeartbeats 8000000 in
theorem X3l(w:World)(S:WG)(n k v:Nat)(h:Qh S w)(hn:n<S.T.Qu)(hc:Cnt S k v)(hok:Ok S.P.pages (6*S.P.bl) S.abs):
  Calls Tryz.prog 60 #[.pointer (some ⟨S.T.sb,0,none⟩),.int .i64 n] w fun e w'=>(∃x c,e=.returned (.tuple #[.int .i64 x,.int .i64 c]))/\∃S',Yn S S' k v w w':=by
 obtain⟨i0,hi,hz0,hz1,hz2⟩:=info_parts Q0c
 have HZ0:=Q0 h
 have HC:=Q0 hc
 have HOK:=Q0 hok
 have hn8:n<8:=by have:=hc.Qu;omega
 have hn8':(n:Int)<8:=by omega
 have CM:=Oh w S n h hn hc.Qu hc.wt2 (by have:=hc.tx;have:=hc.small;omega)
 obtain⟨sb,hsb⟩:∃sb,S.T.sb=sb:=⟨_,rfl⟩
 have HSB:=Q0 hsb
 rw[hsb]at CM ⊢
 have CM:=Q0 CM
 clear h hn hc hok hsb
 go_enter Tryz.func60,Tryz.ntmps60
 go_wp2_with fail
 refine CM.o.mono ?_
 rintro e w1 ⟨hm,wr1,hl1⟩
 have HL1:=Q0 hl1
 have HC1:=Q0 (HC.o.Y1 n wr1)
 obtain⟨S1,hS1⟩:∃S1,S.Y1 n wr1=S1:=⟨_,rfl⟩
 rw[hS1]at HL1 HC1
 have HSB1:Sc (S1.T.sb=sb/\S1.abs=S.abs/\S1.P=S.P/\Kept S.T S1.T):=⟨by rw[<-hS1];exact⟨HSB.o,rfl,rfl,Ys S.T⟩⟩
 clear hl1 hS1
 rcases hm with ⟨_,rfl⟩|⟨id,_,_,rfl⟩
 ·go_wp2_with fail
  go_ret2
  refine⟨⟨0,113,rfl⟩,S1,?_,HSB1.o.2.2.2,HC1.o,by rw[HSB1.o.2.1,HSB1.o.2.2.1];exact HOK.o⟩
  exact Part.Qs HL1.o (Q3 (Below.refl _ _) _)
 ·obtain⟨xt,hxt⟩:∃xt,got S.T.tx id=xt:=⟨_,rfl⟩
  rw[hxt]
  clear hxt
  go_upto_region 4 with fail
  obtain⟨w2,hw2⟩:∃w2,w1.alloc (.cells #[.int .i64 xt.1,.int .i64 xt.2.1,.int .i64 xt.2.2.1,.int .i64 xt.2.2.2] 58)=w2:=⟨_,rfl⟩
  obtain⟨b6,hb6⟩:∃b6,w1.heap.size=b6:=⟨_,rfl⟩
  have HL2:Sc (Q8 (Q1 S) (Q1 S1) w w2):=⟨by rw[<-hw2];exact Part.Qs HL1.o (Q3 (Below.refl _ _) _)⟩
  have HN2:Sc (w2.heap[b6]? =some (.cells #[.int .i64 xt.1,.int .i64 xt.2.1,.int .i64 xt.2.2.1,.int .i64 xt.2.2.2] 58 (0,0))):=⟨by rw[<-hw2,<-hb6];exact heap_alloc_new _ _⟩
  rw[hw2]
  try rw[hb6]
  clear hw2 hb6
  obtain⟨y,hy⟩:∃y,S1.T.sav[n]? =some y:=⟨_,List.getElem?_eq_getElem (by rw[HL2.o.1.sto.ns];exact hn8)⟩
  have hs0:=HL2.o.1.sto.Q5m hy
  have hoy:=HL2.o.1.sto.sv y (List.mem_of_getElem? hy)
  obtain⟨yA,ys,yc,yl⟩:=y
  have hlen:=hoy.len
  have hlen':ys=yl.length:=hlen
  subst hlen'
  have HOY:Sc (Own X6 1 3 0 w2 (.slice yA yl.length yc) yl):=⟨hoy⟩
  have HY:=Q0 hy
  have hy20:yl.length<=20:=HC1.o.sav _ (List.mem_of_getElem? hy)
  have hs:w2.cell? ⟨sb,20+n,none⟩=some (.slice yA yl.length yc):=by rw[<-HSB1.o.1];exact hs0
  have lt2:=World.block_lt_of_cell? _ _ hs
  obtain⟨x0,x1,x2,x3,_,_,_,_,lx⟩:=Qz HN2.o
  clear hs0 hoy hy hlen
  by_cases h20:20<=yl.length
  ·have hb:¬(yl.length:Int)<20:=by omega
   have e1:decide ((yl.length:Int)<20)=false:=decide_eq_false hb
   clear h20
   go_wp2_with fail
   go_ret2
   exact⟨⟨0,117,rfl⟩,S1,HL2.o,HSB1.o.2.2.2,HC1.o,by rw[HSB1.o.2.1,HSB1.o.2.2.1];exact HOK.o⟩
  ·have hb:(yl.length:Int)<20:=by omega
   have e1:decide ((yl.length:Int)<20)=true:=decide_eq_true hb
   have HH20:=Q0 h20
   have CP:∀X,Below w2.heap.size w2 X->Calls Tryz.prog 17 #[.slice yA yl.length yc] X fun e w'=>∃v',e=.returned v'/\Own X6 1 3 w2.heap.size w' v' yl/\Below w2.heap.size w2 w'/\Below X.heap.size X w':=fun X hX=>(Vj X 0 _ yl (HOY.o.below hX) (by omega)).mono fun e w' ⟨vt,he,ho,hb⟩=>⟨vt,he,ho.mono hX.size,hX.trans (hb.mono hX.size),hb⟩
   have HA2:Sc (yl.length+1<=maxLen):=⟨by unfold maxLen;omega⟩
   have HA3:Sc ((yl.length+1)*8<=140737488355328):=⟨by omega⟩
   have HQ:Sc (Below w2.heap.size w2 w2):=⟨Below.refl _ _⟩
   obtain⟨q,hq0⟩:∃q,xt.2.2.2=q:=⟨_,rfl⟩
   rw[hq0]at x3
   have HQ0:=Q0 hq0
   have HQA:Sc (Below w2.heap.size w2 (w2.alloc (.cells (X6 q).toArray 3))):=⟨Q3 (Below.refl _ _) _⟩
   clear h20 hq0
   go_upto_region 6 with fail
   go_cut [] from 25 to 40 (fun wx=>∃A m c,m<=20/\Sc (Q8 (Q1 S1) (Q1 (S1.saved n ⟨A,m,c,yl++[q]⟩)) w2 wx))
   case first=>
    go_region_law (first
     |(go_simp;go_at_call 17;refine(CP _ (by first|exact HQ.o|exact HQ.o.drew|exact HQA.o|exact HQA.o.drew)).mono ?_;rintro e wt ⟨v',rfl,ho,hq,hb⟩;obtain⟨A',n',k',rfl⟩:=ho.slice3;have hn':=ho.len;subst hn';(first|(have HSRC:Sc (wt.heap[w2.heap.size]? =some (.cells (X6 q).toArray 3 (0,0))):=⟨(hb.block w2.heap.size (by simp)).trans (heap_alloc_new w2 (.cells (X6 q).toArray 3))⟩)|skip);have HVT:=Q0 ho;have HQT:=Q0 hq;have x3:=(hq.cell lx).trans x3;clear ho hq hb)
     |((refine step_append_lies _ (by rfl) (.tmp 33) (.tmp 36) 22 (by rfl) 0 3 i0 (.int .i64 0) 1 8 Tryz.underlying22 hi hz0 hz1 hz2 rfl (by decide) _ yl.length (flat X6 yl) (by rfl) (HVT.o.mono (Nat.zero_le _)) ⟨w2.heap.size,0,none⟩ 1 1 (X6 q) (by rfl) (by rfl) (World.news_of_block HSRC.o) (Jm.one _) Nat.one_pos HA2.o HA3.o (Nat.zero_le _) wt.heap.size rfl ?_);intro ga ca wa g1 g2 g3 g4;obtain⟨hll,lw,fw,cw⟩:=Qh.Y3f (S:=S1) (n:=n) (y:=⟨yA,yl.length,yc,yl⟩) HL2.o.1 HQT.o (fun q hq=>(HVT.o.lt q hq).1) g2 (g3.elim .inl (fun h=> .inr (by rw[h];simp))) hn8 HY.o rfl g1;rw[HSB1.o.1]at hll lw fw cw;have HLL:=Q0 hll;clear g1 g2 g3 g4 hll)
     |((refine step_append_lies _ (by rfl) (.tmp 33) (.tmp 36) 22 (by rfl) 0 3 i0 (.int .i64 0) 1 8 Tryz.underlying22 hi hz0 hz1 hz2 rfl (by decide) _ yl.length (flat X6 yl) (by rfl) ((HVT.o.mono (Nat.zero_le _)).alloc _) ⟨wt.heap.size,0,none⟩ 1 1 (X6 q) (by rfl) (by rfl) (World.news_of_block (heap_alloc_new wt (.cells (X6 q).toArray 3))) (Jm.one _) Nat.one_pos HA2.o HA3.o (Nat.zero_le _) (wt.heap.size+1) (by simp) ?_);intro ga ca wa g1 g2 g3 g4;obtain⟨hll,lw,fw,cw⟩:=Qh.Y3f (S:=S1) (n:=n) (y:=⟨yA,yl.length,yc,yl⟩) HL2.o.1 (Q3 HQT.o (.cells (X6 q).toArray 3)) (fun q hq=>(HVT.o.lt q hq).1) g2 (g3.elim .inl (fun h=> .inr (by rw[h];simp))) hn8 HY.o rfl g1;rw[HSB1.o.1]at hll lw fw cw;have HLL:=Q0 hll;clear g1 g2 g3 g4 hll))
    all_goals
     go_wp2_with fail
     go_meet
     case rel=>exact⟨_,_,_,by omega,HLL⟩
   case rest=>
    obtain⟨A,m,c,hm20,HLL⟩:=hcut
    obtain⟨w3,rfl⟩:∃w3,w3=wc:=⟨_,rfl⟩
    have hs3:=HLL.o.1.sto.Q5m (T:=(S1.saved n ⟨A,m,c,yl++[q]⟩).T) (n:=n) (x:=⟨A,m,c,yl++[q]⟩) (by show(S1.T.sav.set n _)[n]? =_;rw[List.getElem?_set_self (List.getElem?_eq_some_iff.1 HY.o).1])
    have hs3':w3.cell? ⟨sb,20+n,none⟩=some (.slice A m c):=by rw[<-HSB1.o.1];exact hs3
    have lt3:=World.block_lt_of_cell? _ _ hs3'
    clear hs3 hs lt2 x0 x1 x2 x3 lx
    go_wp2_with fail
    go_ret2
    refine⟨⟨_,0,rfl⟩,S1.saved n ⟨A,m,c,yl++[q]⟩,Part.trans HL2.o HLL.o,HSB1.o.2.2.2.Qs (Ys S1.T),?_,by show Ok S1.P.pages (6*S1.P.bl) S1.abs;rw[HSB1.o.2.1,HSB1.o.2.2.1];exact HOK.o⟩
    have h1:=HC1.o
    refine⟨h1.Qu,h1.lk,h1.wt,h1.tx,h1.most,h1.vm,h1.sp,h1.small,fun x hx=> ?_,h1.md⟩
    rcases List.mem_or_eq_of_mem_set (show x∈S1.T.sav.set n _ from hx) with hx|rfl
    ·exact h1.sav x hx
    ·show(yl++[q]).length<=20
     have:=HH20.o
     rw[List.length_append,List.length_singleton];omega
end Go.Proofs.YtoapihepdallbaaGreatDoor
