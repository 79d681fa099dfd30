import Derived.Test.YtoapihepdallbaaGreatDoorP40
namespace Go.Proofs.YtoapihepdallbaaGreatDoor
open Go.RowKit
set_option maxRecDepth 8000 in
set_option maxHeartbeats 8000000 in
theorem X1i(w:World)(S:WG)(eb n key N hint k v:Nat)(V Qu:Int)(he:On S eb Qu w)(hf:Ut S n key N hint V k v):
  Calls Tryz.prog 20 #[.pointer (some ⟨eb,0,none⟩),.agg #[.int .i64 1,.int .i64 n,.int .i64 key,.int .i64 N,.int .i64 hint,.int .i64 V,.slice none 0 0]] w (Ur S k v w):=by
 have HE:=Q0 he
 have HF:=Q0 hf
 obtain⟨w1,hw1⟩:∃w1,(w.alloc (.cells #[.int .i64 1,.int .i64 n,.int .i64 key,.int .i64 N,.int .i64 hint,.int .i64 V,.slice none 0 0] 71)).alloc (.cells J3 73)=w1:=⟨_,rfl⟩
 have HB1:Sc (Below w.heap.size w w1):=⟨hw1▸Q3 (Q3 (Below.refl _ _) _) _⟩
 have H2:=Ym w (.cells #[.int .i64 1,.int .i64 n,.int .i64 key,.int .i64 N,.int .i64 hint,.int .i64 V,.slice none 0 0] 71) (.cells J3 73)
 rw[hw1]at H2
 have HBS:Sc (w1.heap.size=w.heap.size+2):=⟨by rw[<-hw1];simp⟩
 obtain⟨b3,hb3⟩:∃b,w.heap.size=b:=⟨_,rfl⟩
 have HB3:=Q0 hb3
 rw[hb3]at H2
 have H2:=Q0 H2
 have HZ:Sc (Qh S w1):=⟨(Q1 S).bel he.whole HB1.o⟩
 have HNO:Sc (∀q,b3<=q->¬(Q1 S).U q):=⟨fun q hq hu=>by have:=(Q1 S).lt HE.o.whole _ hu;have:=HB3.o;omega⟩
 have HBX:Sc (∀W,Kp (Q1 S).U w1 W->W.heap[b3+1]? =some (.cells J3 73 (0,0))):=⟨fun W hk=>hk.at H2.o.2 (HNO.o _ (by omega))⟩
 obtain⟨o0,o1,o2,o3,o4,o5,o6,_,_,_,_,_,_,_,lo⟩:=Xx H2.o.1
 obtain⟨e0,e1,_,_,_,_,le⟩:=Q7 (up HB1.o he.blk)
 obtain⟨_,_,g2,lg⟩:=HZ.o.X2.dl.V8.cells
 rw[<-HZ.o.X2.db,<-HZ.o.pd]at g2 lg
 obtain⟨_,_,_,_,c6,_,_,lt⟩:=HZ.o.sto.cells
 obtain⟨sb,hsb⟩:∃sb,S.T.sb=sb:=⟨_,rfl⟩
 obtain⟨db,hdb⟩:∃db,S.T.db=db:=⟨_,rfl⟩
 obtain⟨pb,hpb⟩:∃pb,S.T.pb=pb:=⟨_,rfl⟩
 have CO:=Q5p w1 S n k v HZ.o hf.n hf.cnt hf.k hf.ok
 rw[hsb]at CO
 rw[hsb]at e1 c6 lt
 rw[hdb]at e0 g2 lg
 rw[hpb]at c6
 have CO:=Q0 CO
 clear he hf hsb hdb hpb
 go_enter Tryz.func20,Tryz.ntmps20
 go_wp2_with fail
 try rw[hw1]
 try rw[hb3]
 clear hw1 hb3
 refine CO.o.mono ?_
 rintro e w2 ⟨⟨c,rfl⟩,S1,hd⟩
 have HD:=Q0 (Yn.wide hd (by omega) (by have:=HF.o.k;omega) (by omega):Yn S S1 (k+1) (v+401) w1 w2)
 have HU:Sc (¬(Q1 S1).U (b3+1)):=⟨fun hu=>(hd.leaves.2.2 _ hu).elim (HNO.o _ (by omega)) (fun hn=>by have:=HBS.o;have:=HB3.o;omega)⟩
 have HL2:=Q0 hd.leaves
 clear hd o0 o1 o2 o3 o4 o5 o6 lo e0 e1 le g2 lg c6 lt
 go_wp2_with fail
 refine(El _ c).mono ?_
 rintro e w3 ⟨rfl,hb⟩
 have HL:=Q0 (Part.Qs HL2.o hb)
 obtain⟨z0,z1,z2,z3,z4,y0,y1,y2,y3,y4,lz⟩:=Vv (HBX.o w3 HL.o.2.1)
 clear hb
 go_wp2
 refine bodyPost_ret (v:=.agg #[.int .i64 c,.bool false,.int .i64 0,.bool false,.int .i64 0]) (by simp[results,Tryz.results20,go_sem,z0,z1,z2,z3,z4]) rfl ⟨⟨_,rfl⟩,S1,?_,HD.o.kept,HD.o.cnt,HD.o.ok⟩
 have e3:=HB3.o
 have hu:=HU.o
 have hl:=Part.from_ HL.o HB1.o
 repeat (first|with_reducible exact hl|with_reducible refine Part.drew ?_|with_reducible refine Part.Y9 ?_ (by omega) hu)
set_option maxRecDepth 8000 in
set_option maxHeartbeats 8000000 in
theorem X8f(w:World)(S:WG)(eb n key N hint k v:Nat)(V Qu:Int)(he:On S eb Qu w)(hf:Ut S n key N hint V k v):
  Calls Tryz.prog 20 #[.pointer (some ⟨eb,0,none⟩),.agg #[.int .i64 2,.int .i64 n,.int .i64 key,.int .i64 N,.int .i64 hint,.int .i64 V,.slice none 0 0]] w (Ur S k v w):=by
 have HE:=Q0 he
 have HF:=Q0 hf
 obtain⟨w1,hw1⟩:∃w1,(w.alloc (.cells #[.int .i64 2,.int .i64 n,.int .i64 key,.int .i64 N,.int .i64 hint,.int .i64 V,.slice none 0 0] 71)).alloc (.cells J3 73)=w1:=⟨_,rfl⟩
 have HB1:Sc (Below w.heap.size w w1):=⟨hw1▸Q3 (Q3 (Below.refl _ _) _) _⟩
 have H2:=Ym w (.cells #[.int .i64 2,.int .i64 n,.int .i64 key,.int .i64 N,.int .i64 hint,.int .i64 V,.slice none 0 0] 71) (.cells J3 73)
 rw[hw1]at H2
 have HBS:Sc (w1.heap.size=w.heap.size+2):=⟨by rw[<-hw1];simp⟩
 obtain⟨b3,hb3⟩:∃b,w.heap.size=b:=⟨_,rfl⟩
 have HB3:=Q0 hb3
 rw[hb3]at H2
 have H2:=Q0 H2
 have HZ:Sc (Qh S w1):=⟨(Q1 S).bel he.whole HB1.o⟩
 have HNO:Sc (∀q,b3<=q->¬(Q1 S).U q):=⟨fun q hq hu=>by have:=(Q1 S).lt HE.o.whole _ hu;have:=HB3.o;omega⟩
 have HBX:Sc (∀W,Kp (Q1 S).U w1 W->W.heap[b3+1]? =some (.cells J3 73 (0,0))):=⟨fun W hk=>hk.at H2.o.2 (HNO.o _ (by omega))⟩
 obtain⟨o0,o1,o2,o3,o4,o5,o6,_,_,_,_,_,_,_,lo⟩:=Xx H2.o.1
 obtain⟨e0,e1,_,_,_,_,le⟩:=Q7 (up HB1.o he.blk)
 obtain⟨_,_,g2,lg⟩:=HZ.o.X2.dl.V8.cells
 rw[<-HZ.o.X2.db,<-HZ.o.pd]at g2 lg
 obtain⟨_,_,_,_,c6,_,_,lt⟩:=HZ.o.sto.cells
 obtain⟨sb,hsb⟩:∃sb,S.T.sb=sb:=⟨_,rfl⟩
 obtain⟨db,hdb⟩:∃db,S.T.db=db:=⟨_,rfl⟩
 obtain⟨pb,hpb⟩:∃pb,S.T.pb=pb:=⟨_,rfl⟩
 have CO:=X6n w1 S n k v hint key HZ.o hf.n hf.cnt hf.k hf.v hf.ok (by omega) (by have:=hf.key;omega) hf.hint
 rw[hsb]at CO
 rw[hsb]at e1 c6 lt
 rw[hdb]at e0 g2 lg
 rw[hpb]at c6
 have CO:=Q0 CO
 clear he hf hsb hdb hpb
 go_enter Tryz.func20,Tryz.ntmps20
 go_wp2_with fail
 try rw[hw1]
 try rw[hb3]
 clear hw1 hb3
 refine CO.o.mono ?_
 rintro e w2 ⟨⟨x,b,c,rfl⟩,S1,hd⟩
 have HD:=Q0 (Yn.wide hd (by omega) (by have:=HF.o.k;omega) (by omega):Yn S S1 (k+1) (v+401) w1 w2)
 have HU:Sc (¬(Q1 S1).U (b3+1)):=⟨fun hu=>(hd.leaves.2.2 _ hu).elim (HNO.o _ (by omega)) (fun hn=>by have:=HBS.o;have:=HB3.o;omega)⟩
 have HL2:=Q0 hd.leaves
 clear hd o0 o1 o2 o3 o4 o5 o6 lo e0 e1 le g2 lg c6 lt
 go_upto_region 19 with fail
 obtain⟨w3,hw3⟩:∃w3,w2.alloc (.cells #[.int .i64 c,.bool false,.int .i64 0] 41)=w3:=⟨_,rfl⟩
 obtain⟨b8,hb8⟩:∃b8,w2.heap.size=b8:=⟨_,rfl⟩
 have HL:Sc (Q8 (Q1 S) (Q1 S1) w1 w3):=⟨by rw[<-hw3];exact Part.Q4p HL2.o _⟩
 have hn8:w3.heap[b8]? =some (.cells #[.int .i64 c,.bool false,.int .i64 0] 41 (0,0)):=by rw[<-hw3,<-hb8];exact heap_alloc_new _ _
 rw[hw3]
 try rw[hb8]
 clear hw3 hb8
 obtain⟨p0,p1,p2,p3,p4,p5,lp⟩:=Q7 hn8
 obtain⟨z0,z1,z2,z3,z4,y0,y1,y2,y3,y4,lz⟩:=Vv (HBX.o w3 HL.o.2.1)
 clear hn8
 go_wp2
 refine bodyPost_ret (v:=.agg #[.int .i64 c,.bool false,.int .i64 0,.bool b,.int .i64 x]) (by simp[results,Tryz.results20,go_sem,z0,z1,z2,z3,z4]) rfl ⟨⟨_,rfl⟩,S1,?_,HD.o.kept,HD.o.cnt,HD.o.ok⟩
 have e3:=HB3.o
 have hu:=HU.o
 have hl:=Part.from_ HL.o HB1.o
 repeat (first|with_reducible exact hl|with_reducible refine Part.drew ?_|with_reducible refine Part.Y9 ?_ (by omega) hu)
set_option maxRecDepth 8000 in
set_option maxHeartbeats 8000000 in
theorem X8g(w:World)(S:WG)(eb n key N hint k v:Nat)(V Qu:Int)(he:On S eb Qu w)(hf:Ut S n key N hint V k v):
  Calls Tryz.prog 20 #[.pointer (some ⟨eb,0,none⟩),.agg #[.int .i64 3,.int .i64 n,.int .i64 key,.int .i64 N,.int .i64 hint,.int .i64 V,.slice none 0 0]] w (Ur S k v w):=by
 have HE:=Q0 he
 have HF:=Q0 hf
 obtain⟨w1,hw1⟩:∃w1,(w.alloc (.cells #[.int .i64 3,.int .i64 n,.int .i64 key,.int .i64 N,.int .i64 hint,.int .i64 V,.slice none 0 0] 71)).alloc (.cells J3 73)=w1:=⟨_,rfl⟩
 have HB1:Sc (Below w.heap.size w w1):=⟨hw1▸Q3 (Q3 (Below.refl _ _) _) _⟩
 have H2:=Ym w (.cells #[.int .i64 3,.int .i64 n,.int .i64 key,.int .i64 N,.int .i64 hint,.int .i64 V,.slice none 0 0] 71) (.cells J3 73)
 rw[hw1]at H2
 have HBS:Sc (w1.heap.size=w.heap.size+2):=⟨by rw[<-hw1];simp⟩
 obtain⟨b3,hb3⟩:∃b,w.heap.size=b:=⟨_,rfl⟩
 have HB3:=Q0 hb3
 rw[hb3]at H2
 have H2:=Q0 H2
 have HZ:Sc (Qh S w1):=⟨(Q1 S).bel he.whole HB1.o⟩
 have HNO:Sc (∀q,b3<=q->¬(Q1 S).U q):=⟨fun q hq hu=>by have:=(Q1 S).lt HE.o.whole _ hu;have:=HB3.o;omega⟩
 have HBX:Sc (∀W,Kp (Q1 S).U w1 W->W.heap[b3+1]? =some (.cells J3 73 (0,0))):=⟨fun W hk=>hk.at H2.o.2 (HNO.o _ (by omega))⟩
 obtain⟨o0,o1,o2,o3,o4,o5,o6,_,_,_,_,_,_,_,lo⟩:=Xx H2.o.1
 obtain⟨e0,e1,_,_,_,_,le⟩:=Q7 (up HB1.o he.blk)
 obtain⟨_,_,g2,lg⟩:=HZ.o.X2.dl.V8.cells
 rw[<-HZ.o.X2.db,<-HZ.o.pd]at g2 lg
 obtain⟨_,_,_,_,c6,_,_,lt⟩:=HZ.o.sto.cells
 obtain⟨sb,hsb⟩:∃sb,S.T.sb=sb:=⟨_,rfl⟩
 obtain⟨db,hdb⟩:∃db,S.T.db=db:=⟨_,rfl⟩
 obtain⟨pb,hpb⟩:∃pb,S.T.pb=pb:=⟨_,rfl⟩
 have CO:=X6o w1 S n k v hint key V HZ.o hf.n hf.cnt hf.k hf.v hf.ok (by omega) (by have:=hf.key;omega) hf.hint hf.V
 rw[hsb]at CO
 rw[hsb]at e1 c6 lt
 rw[hdb]at e0 g2 lg
 rw[hpb]at c6
 have CO:=Q0 CO
 clear he hf hsb hdb hpb
 go_enter Tryz.func20,Tryz.ntmps20
 go_wp2_with fail
 try rw[hw1]
 try rw[hb3]
 clear hw1 hb3
 refine CO.o.mono ?_
 rintro e w2 ⟨⟨x,b,c,rfl⟩,S1,hd⟩
 have HD:=Q0 (Yn.wide hd (by omega) (by have:=HF.o.k;omega) (by omega):Yn S S1 (k+1) (v+401) w1 w2)
 have HU:Sc (¬(Q1 S1).U (b3+1)):=⟨fun hu=>(hd.leaves.2.2 _ hu).elim (HNO.o _ (by omega)) (fun hn=>by have:=HBS.o;have:=HB3.o;omega)⟩
 have HL2:=Q0 hd.leaves
 clear hd o0 o1 o2 o3 o4 o5 o6 lo e0 e1 le g2 lg c6 lt
 go_upto_region 22 with fail
 obtain⟨w3,hw3⟩:∃w3,w2.alloc (.cells #[.int .i64 c,.bool false,.int .i64 0] 41)=w3:=⟨_,rfl⟩
 obtain⟨b8,hb8⟩:∃b8,w2.heap.size=b8:=⟨_,rfl⟩
 have HL:Sc (Q8 (Q1 S) (Q1 S1) w1 w3):=⟨by rw[<-hw3];exact Part.Q4p HL2.o _⟩
 have hn8:w3.heap[b8]? =some (.cells #[.int .i64 c,.bool false,.int .i64 0] 41 (0,0)):=by rw[<-hw3,<-hb8];exact heap_alloc_new _ _
 rw[hw3]
 try rw[hb8]
 clear hw3 hb8
 obtain⟨p0,p1,p2,p3,p4,p5,lp⟩:=Q7 hn8
 obtain⟨z0,z1,z2,z3,z4,y0,y1,y2,y3,y4,lz⟩:=Vv (HBX.o w3 HL.o.2.1)
 clear hn8
 go_wp2
 refine bodyPost_ret (v:=.agg #[.int .i64 c,.bool false,.int .i64 0,.bool b,.int .i64 x]) (by simp[results,Tryz.results20,go_sem,z0,z1,z2,z3,z4]) rfl ⟨⟨_,rfl⟩,S1,?_,HD.o.kept,HD.o.cnt,HD.o.ok⟩
 have e3:=HB3.o
 have hu:=HU.o
 have hl:=Part.from_ HL.o HB1.o
 repeat (first|with_reducible exact hl|with_reducible refine Part.drew ?_|with_reducible refine Part.Y9 ?_ (by omega) hu)
set_option maxRecDepth 8000 in
set_option maxHeartbeats 8000000 in
theorem Q9f(w:World)(S:WG)(eb n key N hint k v:Nat)(V Qu:Int)(he:On S eb Qu w)(hf:Ut S n key N hint V k v):
  Calls Tryz.prog 20 #[.pointer (some ⟨eb,0,none⟩),.agg #[.int .i64 4,.int .i64 n,.int .i64 key,.int .i64 N,.int .i64 hint,.int .i64 V,.slice none 0 0]] w (Ur S k v w):=by
 have HE:=Q0 he
 have HF:=Q0 hf
 obtain⟨w1,hw1⟩:∃w1,(w.alloc (.cells #[.int .i64 4,.int .i64 n,.int .i64 key,.int .i64 N,.int .i64 hint,.int .i64 V,.slice none 0 0] 71)).alloc (.cells J3 73)=w1:=⟨_,rfl⟩
 have HB1:Sc (Below w.heap.size w w1):=⟨hw1▸Q3 (Q3 (Below.refl _ _) _) _⟩
 have H2:=Ym w (.cells #[.int .i64 4,.int .i64 n,.int .i64 key,.int .i64 N,.int .i64 hint,.int .i64 V,.slice none 0 0] 71) (.cells J3 73)
 rw[hw1]at H2
 have HBS:Sc (w1.heap.size=w.heap.size+2):=⟨by rw[<-hw1];simp⟩
 obtain⟨b3,hb3⟩:∃b,w.heap.size=b:=⟨_,rfl⟩
 have HB3:=Q0 hb3
 rw[hb3]at H2
 have H2:=Q0 H2
 have HZ:Sc (Qh S w1):=⟨(Q1 S).bel he.whole HB1.o⟩
 have HNO:Sc (∀q,b3<=q->¬(Q1 S).U q):=⟨fun q hq hu=>by have:=(Q1 S).lt HE.o.whole _ hu;have:=HB3.o;omega⟩
 have HBX:Sc (∀W,Kp (Q1 S).U w1 W->W.heap[b3+1]? =some (.cells J3 73 (0,0))):=⟨fun W hk=>hk.at H2.o.2 (HNO.o _ (by omega))⟩
 obtain⟨o0,o1,o2,o3,o4,o5,o6,_,_,_,_,_,_,_,lo⟩:=Xx H2.o.1
 obtain⟨e0,e1,_,_,_,_,le⟩:=Q7 (up HB1.o he.blk)
 obtain⟨_,_,g2,lg⟩:=HZ.o.X2.dl.V8.cells
 rw[<-HZ.o.X2.db,<-HZ.o.pd]at g2 lg
 obtain⟨_,_,_,_,c6,_,_,lt⟩:=HZ.o.sto.cells
 obtain⟨sb,hsb⟩:∃sb,S.T.sb=sb:=⟨_,rfl⟩
 obtain⟨db,hdb⟩:∃db,S.T.db=db:=⟨_,rfl⟩
 obtain⟨pb,hpb⟩:∃pb,S.T.pb=pb:=⟨_,rfl⟩
 have CO:=Q7a w1 S n k v hint key HZ.o hf.n hf.cnt hf.k hf.v hf.ok (by omega) (by have:=hf.key;omega) hf.hint
 rw[hsb]at CO
 rw[hsb]at e1 c6 lt
 rw[hdb]at e0 g2 lg
 rw[hpb]at c6
 have CO:=Q0 CO
 clear he hf hsb hdb hpb
 go_enter Tryz.func20,Tryz.ntmps20
 go_wp2_with fail
 try rw[hw1]
 try rw[hb3]
 clear hw1 hb3
 refine CO.o.mono ?_
 rintro e w2 ⟨⟨x,b,c,rfl⟩,S1,hd⟩
 have HD:=Q0 (Yn.wide hd (by omega) (by have:=HF.o.k;omega) (by omega):Yn S S1 (k+1) (v+401) w1 w2)
 have HU:Sc (¬(Q1 S1).U (b3+1)):=⟨fun hu=>(hd.leaves.2.2 _ hu).elim (HNO.o _ (by omega)) (fun hn=>by have:=HBS.o;have:=HB3.o;omega)⟩
 have HL2:=Q0 hd.leaves
 clear hd o0 o1 o2 o3 o4 o5 o6 lo e0 e1 le g2 lg c6 lt
 go_upto_region 25 with fail
 obtain⟨w3,hw3⟩:∃w3,w2.alloc (.cells #[.int .i64 c,.bool false,.int .i64 0] 41)=w3:=⟨_,rfl⟩
 obtain⟨b8,hb8⟩:∃b8,w2.heap.size=b8:=⟨_,rfl⟩
 have HL:Sc (Q8 (Q1 S) (Q1 S1) w1 w3):=⟨by rw[<-hw3];exact Part.Q4p HL2.o _⟩
 have hn8:w3.heap[b8]? =some (.cells #[.int .i64 c,.bool false,.int .i64 0] 41 (0,0)):=by rw[<-hw3,<-hb8];exact heap_alloc_new _ _
 rw[hw3]
 try rw[hb8]
 clear hw3 hb8
 obtain⟨p0,p1,p2,p3,p4,p5,lp⟩:=Q7 hn8
 obtain⟨z0,z1,z2,z3,z4,y0,y1,y2,y3,y4,lz⟩:=Vv (HBX.o w3 HL.o.2.1)
 clear hn8
 go_wp2
 refine bodyPost_ret (v:=.agg #[.int .i64 c,.bool false,.int .i64 0,.bool b,.int .i64 x]) (by simp[results,Tryz.results20,go_sem,z0,z1,z2,z3,z4]) rfl ⟨⟨_,rfl⟩,S1,?_,HD.o.kept,HD.o.cnt,HD.o.ok⟩
 have e3:=HB3.o
 have hu:=HU.o
 have hl:=Part.from_ HL.o HB1.o
 repeat (first|with_reducible exact hl|with_reducible refine Part.drew ?_|with_reducible refine Part.Y9 ?_ (by omega) hu)
set_option maxRecDepth 8000 in
set_option maxHeartbeats 8000000 in
theorem X4r(w:World)(S:WG)(eb n key N hint k v:Nat)(V Qu:Int)(he:On S eb Qu w)(hf:Ut S n key N hint V k v):
  Calls Tryz.prog 20 #[.pointer (some ⟨eb,0,none⟩),.agg #[.int .i64 5,.int .i64 n,.int .i64 key,.int .i64 N,.int .i64 hint,.int .i64 V,.slice none 0 0]] w (Ur S k v w):=by
 have HE:=Q0 he
 have HF:=Q0 hf
 obtain⟨w1,hw1⟩:∃w1,(w.alloc (.cells #[.int .i64 5,.int .i64 n,.int .i64 key,.int .i64 N,.int .i64 hint,.int .i64 V,.slice none 0 0] 71)).alloc (.cells J3 73)=w1:=⟨_,rfl⟩
 have HB1:Sc (Below w.heap.size w w1):=⟨hw1▸Q3 (Q3 (Below.refl _ _) _) _⟩
 have H2:=Ym w (.cells #[.int .i64 5,.int .i64 n,.int .i64 key,.int .i64 N,.int .i64 hint,.int .i64 V,.slice none 0 0] 71) (.cells J3 73)
 rw[hw1]at H2
 have HBS:Sc (w1.heap.size=w.heap.size+2):=⟨by rw[<-hw1];simp⟩
 obtain⟨b3,hb3⟩:∃b,w.heap.size=b:=⟨_,rfl⟩
 have HB3:=Q0 hb3
 rw[hb3]at H2
 have H2:=Q0 H2
 have HZ:Sc (Qh S w1):=⟨(Q1 S).bel he.whole HB1.o⟩
 have HNO:Sc (∀q,b3<=q->¬(Q1 S).U q):=⟨fun q hq hu=>by have:=(Q1 S).lt HE.o.whole _ hu;have:=HB3.o;omega⟩
 have HBX:Sc (∀W,Kp (Q1 S).U w1 W->W.heap[b3+1]? =some (.cells J3 73 (0,0))):=⟨fun W hk=>hk.at H2.o.2 (HNO.o _ (by omega))⟩
 obtain⟨o0,o1,o2,o3,o4,o5,o6,_,_,_,_,_,_,_,lo⟩:=Xx H2.o.1
 obtain⟨e0,e1,_,_,_,_,le⟩:=Q7 (up HB1.o he.blk)
 obtain⟨_,_,g2,lg⟩:=HZ.o.X2.dl.V8.cells
 rw[<-HZ.o.X2.db,<-HZ.o.pd]at g2 lg
 obtain⟨_,_,_,_,c6,_,_,lt⟩:=HZ.o.sto.cells
 obtain⟨sb,hsb⟩:∃sb,S.T.sb=sb:=⟨_,rfl⟩
 obtain⟨db,hdb⟩:∃db,S.T.db=db:=⟨_,rfl⟩
 obtain⟨pb,hpb⟩:∃pb,S.T.pb=pb:=⟨_,rfl⟩
 have CO:=X3l w1 S n k v HZ.o hf.n hf.cnt hf.ok
 rw[hsb]at CO
 rw[hsb]at e1 c6 lt
 rw[hdb]at e0 g2 lg
 rw[hpb]at c6
 have CO:=Q0 CO
 clear he hf hsb hdb hpb
 go_enter Tryz.func20,Tryz.ntmps20
 go_wp2_with fail
 try rw[hw1]
 try rw[hb3]
 clear hw1 hb3
 refine CO.o.mono ?_
 rintro e w2 ⟨⟨x,c,rfl⟩,S1,hd⟩
 have HD:=Q0 (Yn.wide hd (by omega) (by have:=HF.o.k;omega) (by omega):Yn S S1 (k+1) (v+401) w1 w2)
 have HU:Sc (¬(Q1 S1).U (b3+1)):=⟨fun hu=>(hd.leaves.2.2 _ hu).elim (HNO.o _ (by omega)) (fun hn=>by have:=HBS.o;have:=HB3.o;omega)⟩
 have HL2:=Q0 hd.leaves
 clear hd o0 o1 o2 o3 o4 o5 o6 lo e0 e1 le g2 lg c6 lt
 obtain⟨q,hq⟩:∃q,(c==0)=q:=⟨_,rfl⟩
 go_wp2_with fail
 refine(Yb _ c).mono ?_
 rintro e w3 ⟨rfl,hb⟩
 have HL:=Q0 (Part.Qs HL2.o hb)
 obtain⟨z0,z1,z2,z3,z4,y0,y1,y2,y3,y4,lz⟩:=Vv (HBX.o w3 HL.o.2.1)
 clear hb
 go_wp2
 refine bodyPost_ret (v:=.agg #[.int .i64 c,.bool false,.int .i64 0,.bool q,.int .i64 x]) (by simp[results,Tryz.results20,go_sem,z0,z1,z2,z3,z4]) rfl ⟨⟨_,rfl⟩,S1,?_,HD.o.kept,HD.o.cnt,HD.o.ok⟩
 have e3:=HB3.o
 have hu:=HU.o
 have hl:=Part.from_ HL.o HB1.o
 repeat (first|with_reducible exact hl|with_reducible refine Part.drew ?_|with_reducible refine Part.Y9 ?_ (by omega) hu)
end Go.Proofs.YtoapihepdallbaaGreatDoor
