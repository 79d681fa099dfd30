import Derived.Test.YtoapihepdallbaaGreatDoorP37
import Derived.Test.YtoapihepdallbaaGreatDoorP40
namespace Go.Proofs.YtoapihepdallbaaGreatDoor
open Go.RowKit
set_option maxRecDepth 8000 in
set_option maxHeartbeats 8000000 in
theorem X4p(w:World)(S:WG)(eb n key N hint k v:Nat)(V Qu:Int)(he:On S eb Qu w)(hf:Ut S n key N hint V k v):
  Calls Tryz.prog 20 #[.pointer (some ⟨eb,0,none⟩),.agg #[.int .i64 6,.int .i64 n,.int .i64 key,.int .i64 N,.int .i64 hint,.int .i64 V,.slice none 0 0]] w (Ur S k v w):=by
 have HE:=Q0 he
 have HF:=Q0 hf
 obtain⟨w1,hw1⟩:∃w1,(w.alloc (.cells #[.int .i64 6,.int .i64 n,.int .i64 key,.int .i64 N,.int .i64 hint,.int .i64 V,.slice none 0 0] 71)).alloc (.cells J3 73)=w1:=⟨_,rfl⟩
 have HB1:Sc (Below w.heap.size w w1):=⟨hw1▸Q3 (Q3 (Below.refl _ _) _) _⟩
 have H2:=Ym w (.cells #[.int .i64 6,.int .i64 n,.int .i64 key,.int .i64 N,.int .i64 hint,.int .i64 V,.slice none 0 0] 71) (.cells J3 73)
 rw[hw1]at H2
 have HBS:Sc (w1.heap.size=w.heap.size+2):=⟨by rw[<-hw1];simp⟩
 obtain⟨b3,hb3⟩:∃b,w.heap.size=b:=⟨_,rfl⟩
 have HB3:=Q0 hb3
 rw[hb3]at H2
 have H2:=Q0 H2
 have HZ:Sc (Qh S w1):=⟨(Q1 S).bel he.whole HB1.o⟩
 have HNO:Sc (∀q,b3<=q->¬(Q1 S).U q):=⟨fun q hq hu=>by have:=(Q1 S).lt HE.o.whole _ hu;have:=HB3.o;omega⟩
 have HBX:Sc (∀W,Kp (Q1 S).U w1 W->W.heap[b3+1]? =some (.cells J3 73 (0,0))):=⟨fun W hk=>hk.at H2.o.2 (HNO.o _ (by omega))⟩
 obtain⟨o0,o1,o2,o3,o4,o5,o6,_,_,_,_,_,_,_,lo⟩:=Xx H2.o.1
 obtain⟨e0,e1,_,_,_,_,le⟩:=Q7 (up HB1.o he.blk)
 obtain⟨_,_,g2,lg⟩:=HZ.o.X2.dl.V8.cells
 rw[<-HZ.o.X2.db,<-HZ.o.pd]at g2 lg
 obtain⟨_,_,_,_,c6,_,_,lt⟩:=HZ.o.sto.cells
 obtain⟨sb,hsb⟩:∃sb,S.T.sb=sb:=⟨_,rfl⟩
 obtain⟨db,hdb⟩:∃db,S.T.db=db:=⟨_,rfl⟩
 obtain⟨pb,hpb⟩:∃pb,S.T.pb=pb:=⟨_,rfl⟩
 have CO:=X3f w1 S n N k v hint HZ.o hf.n hf.cnt (by have:=hf.v;omega) hf.ok hf.hint hf.N
 rw[hsb]at CO
 rw[hsb]at e1 c6 lt
 rw[hdb]at e0 g2 lg
 rw[hpb]at c6
 have CO:=Q0 CO
 clear he hf hsb hdb hpb
 go_enter Tryz.func20,Tryz.ntmps20
 go_wp2_with fail
 try rw[hw1]
 try rw[hb3]
 clear hw1 hb3
 refine CO.o.mono ?_
 rintro e w2 ⟨⟨c,rfl⟩,S1,hd⟩
 have HD:=Q0 (Yn.wide hd (by omega) (by have:=HF.o.k;omega) (by omega):Yn S S1 (k+1) (v+401) w1 w2)
 have HU:Sc (¬(Q1 S1).U (b3+1)):=⟨fun hu=>(hd.leaves.2.2 _ hu).elim (HNO.o _ (by omega)) (fun hn=>by have:=HBS.o;have:=HB3.o;omega)⟩
 have HL2:=Q0 hd.leaves
 clear hd o0 o1 o2 o3 o4 o5 o6 lo e0 e1 le g2 lg c6 lt
 have HL:=HL2
 obtain⟨z0,z1,z2,z3,z4,y0,y1,y2,y3,y4,lz⟩:=Vv (HBX.o w2 HL.o.2.1)
 go_wp2
 refine bodyPost_ret (v:=.agg #[.int .i64 c,.bool false,.int .i64 0,.bool false,.int .i64 0]) (by simp[results,Tryz.results20,go_sem,z0,z1,z2,z3,z4]) rfl ⟨⟨_,rfl⟩,S1,?_,HD.o.kept,HD.o.cnt,HD.o.ok⟩
 have e3:=HB3.o
 have hu:=HU.o
 have hl:=Part.from_ HL.o HB1.o
 repeat (first|with_reducible exact hl|with_reducible refine Part.drew ?_|with_reducible refine Part.Y9 ?_ (by omega) hu)
set_option maxRecDepth 8000 in
set_option maxHeartbeats 8000000 in
theorem Q9e(w:World)(S:WG)(eb n key N hint k v:Nat)(V Qu:Int)(he:On S eb Qu w)(hf:Ut S n key N hint V k v):
  Calls Tryz.prog 20 #[.pointer (some ⟨eb,0,none⟩),.agg #[.int .i64 7,.int .i64 n,.int .i64 key,.int .i64 N,.int .i64 hint,.int .i64 V,.slice none 0 0]] w (Ur S k v w):=by
 have HE:=Q0 he
 have HF:=Q0 hf
 obtain⟨w1,hw1⟩:∃w1,(w.alloc (.cells #[.int .i64 7,.int .i64 n,.int .i64 key,.int .i64 N,.int .i64 hint,.int .i64 V,.slice none 0 0] 71)).alloc (.cells J3 73)=w1:=⟨_,rfl⟩
 have HB1:Sc (Below w.heap.size w w1):=⟨hw1▸Q3 (Q3 (Below.refl _ _) _) _⟩
 have H2:=Ym w (.cells #[.int .i64 7,.int .i64 n,.int .i64 key,.int .i64 N,.int .i64 hint,.int .i64 V,.slice none 0 0] 71) (.cells J3 73)
 rw[hw1]at H2
 have HBS:Sc (w1.heap.size=w.heap.size+2):=⟨by rw[<-hw1];simp⟩
 obtain⟨b3,hb3⟩:∃b,w.heap.size=b:=⟨_,rfl⟩
 have HB3:=Q0 hb3
 rw[hb3]at H2
 have H2:=Q0 H2
 have HZ:Sc (Qh S w1):=⟨(Q1 S).bel he.whole HB1.o⟩
 have HNO:Sc (∀q,b3<=q->¬(Q1 S).U q):=⟨fun q hq hu=>by have:=(Q1 S).lt HE.o.whole _ hu;have:=HB3.o;omega⟩
 have HBX:Sc (∀W,Kp (Q1 S).U w1 W->W.heap[b3+1]? =some (.cells J3 73 (0,0))):=⟨fun W hk=>hk.at H2.o.2 (HNO.o _ (by omega))⟩
 obtain⟨o0,o1,o2,o3,o4,o5,o6,_,_,_,_,_,_,_,lo⟩:=Xx H2.o.1
 obtain⟨e0,e1,_,_,_,_,le⟩:=Q7 (up HB1.o he.blk)
 obtain⟨_,_,g2,lg⟩:=HZ.o.X2.dl.V8.cells
 rw[<-HZ.o.X2.db,<-HZ.o.pd]at g2 lg
 obtain⟨_,_,_,_,c6,_,_,lt⟩:=HZ.o.sto.cells
 obtain⟨sb,hsb⟩:∃sb,S.T.sb=sb:=⟨_,rfl⟩
 obtain⟨db,hdb⟩:∃db,S.T.db=db:=⟨_,rfl⟩
 obtain⟨pb,hpb⟩:∃pb,S.T.pb=pb:=⟨_,rfl⟩
 have CO:=Q6z w1 S n k v HZ.o hf.n hf.cnt (by have:=hf.v;omega) hf.ok
 rw[hsb]at CO
 rw[hsb]at e1 c6 lt
 rw[hdb]at e0 g2 lg
 rw[hpb]at c6
 have CO:=Q0 CO
 clear he hf hsb hdb hpb
 go_enter Tryz.func20,Tryz.ntmps20
 go_wp2_with fail
 try rw[hw1]
 try rw[hb3]
 clear hw1 hb3
 refine CO.o.mono ?_
 rintro e w2 ⟨⟨c,rfl⟩,S1,hd⟩
 have HD:=Q0 (Yn.wide hd (by omega) (by have:=HF.o.k;omega) (by omega):Yn S S1 (k+1) (v+401) w1 w2)
 have HU:Sc (¬(Q1 S1).U (b3+1)):=⟨fun hu=>(hd.leaves.2.2 _ hu).elim (HNO.o _ (by omega)) (fun hn=>by have:=HBS.o;have:=HB3.o;omega)⟩
 have HL2:=Q0 hd.leaves
 clear hd o0 o1 o2 o3 o4 o5 o6 lo e0 e1 le g2 lg c6 lt
 have HL:=HL2
 obtain⟨z0,z1,z2,z3,z4,y0,y1,y2,y3,y4,lz⟩:=Vv (HBX.o w2 HL.o.2.1)
 go_wp2
 refine bodyPost_ret (v:=.agg #[.int .i64 c,.bool false,.int .i64 0,.bool false,.int .i64 0]) (by simp[results,Tryz.results20,go_sem,z0,z1,z2,z3,z4]) rfl ⟨⟨_,rfl⟩,S1,?_,HD.o.kept,HD.o.cnt,HD.o.ok⟩
 have e3:=HB3.o
 have hu:=HU.o
 have hl:=Part.from_ HL.o HB1.o
 repeat (first|with_reducible exact hl|with_reducible refine Part.drew ?_|with_reducible refine Part.Y9 ?_ (by omega) hu)
set_option maxRecDepth 8000 in
set_option maxHeartbeats 8000000 in
theorem X1h(w:World)(S:WG)(eb n key N hint k v:Nat)(V Qu:Int)(he:On S eb Qu w)(hf:Ut S n key N hint V k v):
  Calls Tryz.prog 20 #[.pointer (some ⟨eb,0,none⟩),.agg #[.int .i64 8,.int .i64 n,.int .i64 key,.int .i64 N,.int .i64 hint,.int .i64 V,.slice none 0 0]] w (Ur S k v w):=by
 have HE:=Q0 he
 have HF:=Q0 hf
 obtain⟨w1,hw1⟩:∃w1,(w.alloc (.cells #[.int .i64 8,.int .i64 n,.int .i64 key,.int .i64 N,.int .i64 hint,.int .i64 V,.slice none 0 0] 71)).alloc (.cells J3 73)=w1:=⟨_,rfl⟩
 have HB1:Sc (Below w.heap.size w w1):=⟨hw1▸Q3 (Q3 (Below.refl _ _) _) _⟩
 have H2:=Ym w (.cells #[.int .i64 8,.int .i64 n,.int .i64 key,.int .i64 N,.int .i64 hint,.int .i64 V,.slice none 0 0] 71) (.cells J3 73)
 rw[hw1]at H2
 have HBS:Sc (w1.heap.size=w.heap.size+2):=⟨by rw[<-hw1];simp⟩
 obtain⟨b3,hb3⟩:∃b,w.heap.size=b:=⟨_,rfl⟩
 have HB3:=Q0 hb3
 rw[hb3]at H2
 have H2:=Q0 H2
 have HZ:Sc (Qh S w1):=⟨(Q1 S).bel he.whole HB1.o⟩
 have HNO:Sc (∀q,b3<=q->¬(Q1 S).U q):=⟨fun q hq hu=>by have:=(Q1 S).lt HE.o.whole _ hu;have:=HB3.o;omega⟩
 have HBX:Sc (∀W,Kp (Q1 S).U w1 W->W.heap[b3+1]? =some (.cells J3 73 (0,0))):=⟨fun W hk=>hk.at H2.o.2 (HNO.o _ (by omega))⟩
 obtain⟨o0,o1,o2,o3,o4,o5,o6,_,_,_,_,_,_,_,lo⟩:=Xx H2.o.1
 obtain⟨e0,e1,_,_,_,_,le⟩:=Q7 (up HB1.o he.blk)
 obtain⟨_,_,g2,lg⟩:=HZ.o.X2.dl.V8.cells
 rw[<-HZ.o.X2.db,<-HZ.o.pd]at g2 lg
 obtain⟨_,_,_,_,c6,_,_,lt⟩:=HZ.o.sto.cells
 obtain⟨sb,hsb⟩:∃sb,S.T.sb=sb:=⟨_,rfl⟩
 obtain⟨db,hdb⟩:∃db,S.T.db=db:=⟨_,rfl⟩
 obtain⟨pb,hpb⟩:∃pb,S.T.pb=pb:=⟨_,rfl⟩
 have CO:=Q0s w1 S n k v hint HZ.o hf.n hf.cnt (by have:=hf.v;omega) hf.ok hf.hint
 rw[hsb]at CO
 rw[hsb]at e1 c6 lt
 rw[hdb]at e0 g2 lg
 rw[hpb]at c6
 have CO:=Q0 CO
 clear he hf hsb hdb hpb
 go_enter Tryz.func20,Tryz.ntmps20
 go_wp2_with fail
 try rw[hw1]
 try rw[hb3]
 clear hw1 hb3
 refine CO.o.mono ?_
 rintro e w2 ⟨⟨c,rfl⟩,S1,hd⟩
 have HD:=Q0 (Yn.wide hd (by omega) (by have:=HF.o.k;omega) (by omega):Yn S S1 (k+1) (v+401) w1 w2)
 have HU:Sc (¬(Q1 S1).U (b3+1)):=⟨fun hu=>(hd.leaves.2.2 _ hu).elim (HNO.o _ (by omega)) (fun hn=>by have:=HBS.o;have:=HB3.o;omega)⟩
 have HL2:=Q0 hd.leaves
 clear hd o0 o1 o2 o3 o4 o5 o6 lo e0 e1 le g2 lg c6 lt
 have HL:=HL2
 obtain⟨z0,z1,z2,z3,z4,y0,y1,y2,y3,y4,lz⟩:=Vv (HBX.o w2 HL.o.2.1)
 go_wp2
 refine bodyPost_ret (v:=.agg #[.int .i64 c,.bool false,.int .i64 0,.bool false,.int .i64 0]) (by simp[results,Tryz.results20,go_sem,z0,z1,z2,z3,z4]) rfl ⟨⟨_,rfl⟩,S1,?_,HD.o.kept,HD.o.cnt,HD.o.ok⟩
 have e3:=HB3.o
 have hu:=HU.o
 have hl:=Part.from_ HL.o HB1.o
 repeat (first|with_reducible exact hl|with_reducible refine Part.drew ?_|with_reducible refine Part.Y9 ?_ (by omega) hu)
theorem X4m{w:World}{b:Nat}{u0 u1 u2 u3 u4 u5 u6 x0 x1 x2 x3 x4 x5 x6:Value}{t:TypeId}(h:w.heap[b]? =some (.cells #[u0,u1,u2,u3,u4,u5,u6] t (0,0))):
  (((((((w.setCell ⟨b,0,none⟩ x0).setCell ⟨b,1,none⟩ x1).setCell ⟨b,2,none⟩ x2).setCell ⟨b,3,none⟩ x3).setCell ⟨b,4,none⟩ x4).setCell ⟨b,5,none⟩ x5).setCell ⟨b,6,none⟩ x6).heap[b]? =some (.cells #[x0,x1,x2,x3,x4,x5,x6] t (0,0)):=by
 have h0:(w.setCell ⟨b,0,none⟩ x0).heap[b]? =some (.cells #[x0,u1,u2,u3,u4,u5,u6] t (0,0)):=by rw[Qn h 0 _];rfl
 have h1:((w.setCell ⟨b,0,none⟩ x0).setCell ⟨b,1,none⟩ x1).heap[b]? =some (.cells #[x0,x1,u2,u3,u4,u5,u6] t (0,0)):=by rw[Qn h0 1 _];rfl
 have h2:(((w.setCell ⟨b,0,none⟩ x0).setCell ⟨b,1,none⟩ x1).setCell ⟨b,2,none⟩ x2).heap[b]? =some (.cells #[x0,x1,x2,u3,u4,u5,u6] t (0,0)):=by rw[Qn h1 2 _];rfl
 have h3:((((w.setCell ⟨b,0,none⟩ x0).setCell ⟨b,1,none⟩ x1).setCell ⟨b,2,none⟩ x2).setCell ⟨b,3,none⟩ x3).heap[b]? =some (.cells #[x0,x1,x2,x3,u4,u5,u6] t (0,0)):=by rw[Qn h2 3 _];rfl
 have h4:(((((w.setCell ⟨b,0,none⟩ x0).setCell ⟨b,1,none⟩ x1).setCell ⟨b,2,none⟩ x2).setCell ⟨b,3,none⟩ x3).setCell ⟨b,4,none⟩ x4).heap[b]? =some (.cells #[x0,x1,x2,x3,x4,u5,u6] t (0,0)):=by rw[Qn h3 4 _];rfl
 have h5:((((((w.setCell ⟨b,0,none⟩ x0).setCell ⟨b,1,none⟩ x1).setCell ⟨b,2,none⟩ x2).setCell ⟨b,3,none⟩ x3).setCell ⟨b,4,none⟩ x4).setCell ⟨b,5,none⟩ x5).heap[b]? =some (.cells #[x0,x1,x2,x3,x4,x5,u6] t (0,0)):=by rw[Qn h4 5 _];rfl
 have h6:(((((((w.setCell ⟨b,0,none⟩ x0).setCell ⟨b,1,none⟩ x1).setCell ⟨b,2,none⟩ x2).setCell ⟨b,3,none⟩ x3).setCell ⟨b,4,none⟩ x4).setCell ⟨b,5,none⟩ x5).setCell ⟨b,6,none⟩ x6).heap[b]? =some (.cells #[x0,x1,x2,x3,x4,x5,x6] t (0,0)):=by rw[Qn h5 6 _];rfl
 exact h6
theorem Y5w{W:World}{sb pb:Nat}{o1 o2 o3 o4 o5 o6 o7 o8 o9 o10 o11 o12 o13:Nat}{v1 v2 v3 v4 v5 v6 v7 v8 v9 v10 v11 v12 v13:Value}{b i:Nat}{v:Value}(h:W.cell? ⟨sb,o1,none⟩=some v1/\W.cell? ⟨sb,o2,none⟩=some v2/\W.cell? ⟨sb,o3,none⟩=some v3/\W.cell? ⟨sb,o4,none⟩=some v4/\W.cell? ⟨sb,o5,none⟩=some v5/\W.cell? ⟨sb,o6,none⟩=some v6/\W.cell? ⟨sb,o7,none⟩=some v7/\W.cell? ⟨sb,o8,none⟩=some v8/\W.cell? ⟨sb,o9,none⟩=some v9/\W.cell? ⟨sb,o10,none⟩=some v10/\W.cell? ⟨sb,o11,none⟩=some v11/\W.cell? ⟨sb,o12,none⟩=some v12/\W.cell? ⟨pb,o13,none⟩=some v13)(k1:¬b=sb)(k2:¬b=pb):(W.setCell ⟨b,i,none⟩ v).cell? ⟨sb,o1,none⟩=some v1/\(W.setCell ⟨b,i,none⟩ v).cell? ⟨sb,o2,none⟩=some v2/\(W.setCell ⟨b,i,none⟩ v).cell? ⟨sb,o3,none⟩=some v3/\(W.setCell ⟨b,i,none⟩ v).cell? ⟨sb,o4,none⟩=some v4/\(W.setCell ⟨b,i,none⟩ v).cell? ⟨sb,o5,none⟩=some v5/\(W.setCell ⟨b,i,none⟩ v).cell? ⟨sb,o6,none⟩=some v6/\(W.setCell ⟨b,i,none⟩ v).cell? ⟨sb,o7,none⟩=some v7/\(W.setCell ⟨b,i,none⟩ v).cell? ⟨sb,o8,none⟩=some v8/\(W.setCell ⟨b,i,none⟩ v).cell? ⟨sb,o9,none⟩=some v9/\(W.setCell ⟨b,i,none⟩ v).cell? ⟨sb,o10,none⟩=some v10/\(W.setCell ⟨b,i,none⟩ v).cell? ⟨sb,o11,none⟩=some v11/\(W.setCell ⟨b,i,none⟩ v).cell? ⟨sb,o12,none⟩=some v12/\(W.setCell ⟨b,i,none⟩ v).cell? ⟨pb,o13,none⟩=some v13:=by
 obtain⟨h1,h2,h3,h4,h5,h6,h7,h8,h9,h10,h11,h12,h13⟩:=h
 exact⟨(World.cell?_setCell_far W ⟨b,i,none⟩ ⟨sb,o1,none⟩ v k1).trans h1,(World.cell?_setCell_far W ⟨b,i,none⟩ ⟨sb,o2,none⟩ v k1).trans h2,(World.cell?_setCell_far W ⟨b,i,none⟩ ⟨sb,o3,none⟩ v k1).trans h3,(World.cell?_setCell_far W ⟨b,i,none⟩ ⟨sb,o4,none⟩ v k1).trans h4,(World.cell?_setCell_far W ⟨b,i,none⟩ ⟨sb,o5,none⟩ v k1).trans h5,(World.cell?_setCell_far W ⟨b,i,none⟩ ⟨sb,o6,none⟩ v k1).trans h6,(World.cell?_setCell_far W ⟨b,i,none⟩ ⟨sb,o7,none⟩ v k1).trans h7,(World.cell?_setCell_far W ⟨b,i,none⟩ ⟨sb,o8,none⟩ v k1).trans h8,(World.cell?_setCell_far W ⟨b,i,none⟩ ⟨sb,o9,none⟩ v k1).trans h9,(World.cell?_setCell_far W ⟨b,i,none⟩ ⟨sb,o10,none⟩ v k1).trans h10,(World.cell?_setCell_far W ⟨b,i,none⟩ ⟨sb,o11,none⟩ v k1).trans h11,(World.cell?_setCell_far W ⟨b,i,none⟩ ⟨sb,o12,none⟩ v k1).trans h12,(World.cell?_setCell_far W ⟨b,i,none⟩ ⟨pb,o13,none⟩ v k2).trans h13⟩
theorem Y0g{W:World}{sb pb:Nat}{o1 o2 o3 o4 o5 o6 o7 o8 o9 o10 o11 o12 o13:Nat}{v1 v2 v3 v4 v5 v6 v7 v8 v9 v10 v11 v12 v13:Value}(h:W.cell? ⟨sb,o1,none⟩=some v1/\W.cell? ⟨sb,o2,none⟩=some v2/\W.cell? ⟨sb,o3,none⟩=some v3/\W.cell? ⟨sb,o4,none⟩=some v4/\W.cell? ⟨sb,o5,none⟩=some v5/\W.cell? ⟨sb,o6,none⟩=some v6/\W.cell? ⟨sb,o7,none⟩=some v7/\W.cell? ⟨sb,o8,none⟩=some v8/\W.cell? ⟨sb,o9,none⟩=some v9/\W.cell? ⟨sb,o10,none⟩=some v10/\W.cell? ⟨sb,o11,none⟩=some v11/\W.cell? ⟨sb,o12,none⟩=some v12/\W.cell? ⟨pb,o13,none⟩=some v13)(o:Obj):(W.alloc o).cell? ⟨sb,o1,none⟩=some v1/\(W.alloc o).cell? ⟨sb,o2,none⟩=some v2/\(W.alloc o).cell? ⟨sb,o3,none⟩=some v3/\(W.alloc o).cell? ⟨sb,o4,none⟩=some v4/\(W.alloc o).cell? ⟨sb,o5,none⟩=some v5/\(W.alloc o).cell? ⟨sb,o6,none⟩=some v6/\(W.alloc o).cell? ⟨sb,o7,none⟩=some v7/\(W.alloc o).cell? ⟨sb,o8,none⟩=some v8/\(W.alloc o).cell? ⟨sb,o9,none⟩=some v9/\(W.alloc o).cell? ⟨sb,o10,none⟩=some v10/\(W.alloc o).cell? ⟨sb,o11,none⟩=some v11/\(W.alloc o).cell? ⟨sb,o12,none⟩=some v12/\(W.alloc o).cell? ⟨pb,o13,none⟩=some v13:=by
 obtain⟨h1,h2,h3,h4,h5,h6,h7,h8,h9,h10,h11,h12,h13⟩:=h
 exact⟨(World.cell?_alloc_lt _ _ _ (World.block_lt_of_cell? W ⟨sb,o1,none⟩ h1)).trans h1,(World.cell?_alloc_lt _ _ _ (World.block_lt_of_cell? W ⟨sb,o2,none⟩ h2)).trans h2,(World.cell?_alloc_lt _ _ _ (World.block_lt_of_cell? W ⟨sb,o3,none⟩ h3)).trans h3,(World.cell?_alloc_lt _ _ _ (World.block_lt_of_cell? W ⟨sb,o4,none⟩ h4)).trans h4,(World.cell?_alloc_lt _ _ _ (World.block_lt_of_cell? W ⟨sb,o5,none⟩ h5)).trans h5,(World.cell?_alloc_lt _ _ _ (World.block_lt_of_cell? W ⟨sb,o6,none⟩ h6)).trans h6,(World.cell?_alloc_lt _ _ _ (World.block_lt_of_cell? W ⟨sb,o7,none⟩ h7)).trans h7,(World.cell?_alloc_lt _ _ _ (World.block_lt_of_cell? W ⟨sb,o8,none⟩ h8)).trans h8,(World.cell?_alloc_lt _ _ _ (World.block_lt_of_cell? W ⟨sb,o9,none⟩ h9)).trans h9,(World.cell?_alloc_lt _ _ _ (World.block_lt_of_cell? W ⟨sb,o10,none⟩ h10)).trans h10,(World.cell?_alloc_lt _ _ _ (World.block_lt_of_cell? W ⟨sb,o11,none⟩ h11)).trans h11,(World.cell?_alloc_lt _ _ _ (World.block_lt_of_cell? W ⟨sb,o12,none⟩ h12)).trans h12,(World.cell?_alloc_lt _ _ _ (World.block_lt_of_cell? W ⟨pb,o13,none⟩ h13)).trans h13⟩
theorem Y3e{W:World}{sb pb:Nat}{o1 o2 o3 o4 o5 o6 o7 o8 o9 o10 o11 o12 o13:Nat}{v1 v2 v3 v4 v5 v6 v7 v8 v9 v10 v11 v12 v13:Value}(h:W.cell? ⟨sb,o1,none⟩=some v1/\W.cell? ⟨sb,o2,none⟩=some v2/\W.cell? ⟨sb,o3,none⟩=some v3/\W.cell? ⟨sb,o4,none⟩=some v4/\W.cell? ⟨sb,o5,none⟩=some v5/\W.cell? ⟨sb,o6,none⟩=some v6/\W.cell? ⟨sb,o7,none⟩=some v7/\W.cell? ⟨sb,o8,none⟩=some v8/\W.cell? ⟨sb,o9,none⟩=some v9/\W.cell? ⟨sb,o10,none⟩=some v10/\W.cell? ⟨sb,o11,none⟩=some v11/\W.cell? ⟨sb,o12,none⟩=some v12/\W.cell? ⟨pb,o13,none⟩=some v13):W.drew.cell? ⟨sb,o1,none⟩=some v1/\W.drew.cell? ⟨sb,o2,none⟩=some v2/\W.drew.cell? ⟨sb,o3,none⟩=some v3/\W.drew.cell? ⟨sb,o4,none⟩=some v4/\W.drew.cell? ⟨sb,o5,none⟩=some v5/\W.drew.cell? ⟨sb,o6,none⟩=some v6/\W.drew.cell? ⟨sb,o7,none⟩=some v7/\W.drew.cell? ⟨sb,o8,none⟩=some v8/\W.drew.cell? ⟨sb,o9,none⟩=some v9/\W.drew.cell? ⟨sb,o10,none⟩=some v10/\W.drew.cell? ⟨sb,o11,none⟩=some v11/\W.drew.cell? ⟨sb,o12,none⟩=some v12/\W.drew.cell? ⟨pb,o13,none⟩=some v13:=h
set_option maxRecDepth 4000 in
set_option maxHeartbeats 8000000 in
theorem X3g(w:World)(S:WG)(k v:Nat)(h:Qh S w)(hc:Cnt S k v)(hv:v<=800000)(hok:Ok S.P.pages (6*S.P.bl) S.abs)(hfr:1<=S.T.Xf/\S.T.Xf<=8):
  Calls Tryz.prog 65 #[.pointer (some ⟨S.T.sb,0,none⟩)] w fun e w'=>(∃c,e=.returned (.int .i64 c))/\∃S',Yn S S' k v w w':=by
 have HZ0:=Q0 h
 have HC:=Q0 hc
 have HOK:=Q0 hok
 have HH:=Q0 (And.intro hv hfr)
 obtain⟨sb,hsb⟩:∃sb,S.T.sb=sb:=⟨_,rfl⟩
 obtain⟨pb,hpb⟩:∃pb,S.T.pb=pb:=⟨_,rfl⟩
 obtain⟨spb,hspb⟩:∃spb,S.T.spb=spb:=⟨_,rfl⟩
 obtain⟨db,hdb⟩:∃db,S.T.db=db:=⟨_,rfl⟩
 obtain⟨lb,hlb⟩:∃lb,S.T.lb=lb:=⟨_,rfl⟩
 have HSB:Sc (S.T.sb=sb/\S.T.pb=pb/\S.T.spb=spb/\S.T.db=db/\S.T.lb=lb):=⟨hsb,hpb,hspb,hdb,hlb⟩
 obtain⟨nt,hnt⟩:∃n,S.T.tx.length=n:=⟨_,rfl⟩
 obtain⟨ng,hng⟩:∃n,S.P.O.tab.length=n:=⟨_,rfl⟩
 have hnt2:nt<=200:=by have:=hc.tx;have:=hc.small;omega
 have hng2:ng<=8:=by have:=X7y h.X2;omega
 have HN:=Q0 (And.intro hnt hng)
 obtain⟨At,ct,Ag,cg,_,_,c9,c4⟩:=h.rows
 obtain⟨_,_,_,_,c6,_,c11,_⟩:=h.sto.cells
 rw[hsb]at c9 c6 c11
 rw[hpb]at c4 c6
 rw[hspb]at c11
 rw[hnt]at c9
 rw[hng]at c4
 have hfar:=h.far
 rw[hsb,hpb,hspb]at hfar
 have hw1:IntKind.i64.wrap (2+(nt:Int))=2+(nt:Int):=IntWalk.i64_in _ ⟨by omega,by omega⟩
 have hw2:IntKind.i64.wrap (2+(nt:Int)+(ng:Int))=2+(nt:Int)+(ng:Int):=IntWalk.i64_in _ ⟨by omega,by omega⟩
 have HS0:=Q0 (And.intro c11 (And.intro c9 (And.intro c6 c4)))
 have CA:Sc (∀X,Below w.heap.size w X->Calls Tryz.prog 95 #[.pointer (some ⟨spb,0,none⟩),.int .i64 (2+(nt:Int)+(ng:Int)),.int .i64 0] X fun e w'=>∃c,e=.returned (.int .i64 c)/\(∃f k,f+k<=S.f+S.k/\Q8 (Q1 S) (Q1 (S.space f k)) w w')/\(w'.cell? ⟨sb,11,none⟩=some (.pointer (some ⟨spb,0,none⟩))/\w'.cell? ⟨sb,9,none⟩=some (.slice At nt ct)/\w'.cell? ⟨sb,6,none⟩=some (.pointer (some ⟨pb,0,none⟩))/\w'.cell? ⟨pb,4,none⟩=some (.slice Ag ng cg))):=⟨fun X hX=>by
  have hz:=(Q1 S).bel HZ0.o hX
  have:=Q0q X S.T.spb S.f S.k (2+(nt:Int)+(ng:Int)) 0 hz.spa (by omega) (by omega) (by omega) (by omega) (by have:=hz.spa.k1;have:=hc.sp;have:=hz.spa.f0;omega)
  rw[hspb]at this
  refine this.mono ?_
  rintro e w' ⟨hk,hh⟩
  have hkk:Kp (fun q=>q=spb) w w':=((Kp.Qi hX (fun q=>q=spb)).trans hk (fun q hq=> .inl hq))
  have hcs:=And.intro (Zf hkk HS0.o.1 hfar.2.2.1) (And.intro (Zf hkk HS0.o.2.1 hfar.2.2.1) (And.intro (Zf hkk HS0.o.2.2.1 hfar.2.2.1) (Zf hkk HS0.o.2.2.2 hfar.2.2.2)))
  rw[<-hspb]at hkk hh
  rcases hh with ⟨_,he,hs⟩|⟨h1,he,hs⟩
  ·exact⟨109,he,⟨S.f,S.k,Int.le_refl _,HZ0.o.Vn hs hkk⟩,hcs⟩
  ·exact⟨0,he,⟨_,_,by omega,HZ0.o.Vn hs hkk⟩,hcs⟩⟩
 rw[hsb]
 clear h hc hv hok hfr hsb hpb hspb hdb hlb hnt hng c9 c4 c6 c11 hfar
 have HQ:Sc (Below w.heap.size w w):=⟨Below.refl _ _⟩
 go_enter Tryz.func65,Tryz.ntmps65
 go_upto_region 1 with fail
 go_cut [3] from 6 to 27 (fun s3 wx=>∃c,s3=.int .i64 c/\Sc (∃f k,f+k<=S.f+S.k/\Q8 (Q1 S) (Q1 (S.space f k)) w wx))
 case first=>
  go_region_held3 (fun W=>W.cell? ⟨sb,11,none⟩=some (.pointer (some ⟨spb,0,none⟩))/\W.cell? ⟨sb,9,none⟩=some (.slice At nt ct)/\W.cell? ⟨sb,6,none⟩=some (.pointer (some ⟨pb,0,none⟩))/\W.cell? ⟨pb,4,none⟩=some (.slice Ag ng cg))
   (first|with_reducible assumption|with_reducible exact HSS.o|with_reducible exact HS0.o|exact HS0.o)
   (first
    |(go_at_call 95;go_loud (refine(CA.o _ (by first|with_reducible exact HQ.o|with_reducible exact Below.drew HQ.o)).mono ?_;rintro e wt ⟨c,rfl,hl,hss⟩;have HLT:=Q0 hl;have HSS:=Q0 hss;clear hl hss)))
  all_goals
   go_wp2_with fail
   go_meet
   case rel=>exact⟨c,rfl,HLT⟩
 case rest=>
  obtain⟨c,rfl,HLT⟩:=hcut
  obtain⟨w2,rfl⟩:∃w2,w2=wc:=⟨_,rfl⟩
  obtain⟨f1,k1,hfk,hl2⟩:=HLT.o
  obtain⟨S1,hS1⟩:∃S1,S.space f1 k1=S1:=⟨_,rfl⟩
  have HS1:Sc (S1.T=S.T/\S1.P=S.P/\S1.abs=S.abs/\Cnt S1 k v):=⟨by rw[<-hS1];exact⟨rfl,rfl,rfl,HC.o.Qu,HC.o.lk,HC.o.wt,HC.o.tx,HC.o.most,HC.o.vm,by have:=HC.o.sp;show f1+k1<=400;omega,HC.o.small,HC.o.sav,HC.o.md⟩⟩
  rw[hS1]at hl2
  have HL2:=Q0 hl2
  clear hfk hl2 hS1 hw1 hw2
  by_cases hc0:c=0
  ·subst hc0
   obtain⟨Bt,dt,Bg,dg,ot,og,c9,c4⟩:=HL2.o.1.rows
   obtain⟨_,_,d4,d5,c6,c10,_,lt⟩:=HL2.o.1.sto.cells
   obtain⟨m0,m1,m2,m3,m4,m5,m6⟩:=HL2.o.1.sto.X5i
   obtain⟨most,hmost⟩:∃m,S1.T.most=m:=⟨_,rfl⟩
   obtain⟨ck,hck⟩:∃m,S1.T.ck=m:=⟨_,rfl⟩
   obtain⟨pn,hpn⟩:∃m:Nat,S1.T.pages=m:=⟨_,rfl⟩
   obtain⟨bn,hbn⟩:∃m:Nat,S1.T.bl=m:=⟨_,rfl⟩
   obtain⟨fn,hfn⟩:∃m:Nat,S1.T.Xf=m:=⟨_,rfl⟩
   have hsb1:S1.T.sb=sb/\S1.T.pb=pb/\S1.T.db=db/\S1.T.lb=lb:=by rw[HS1.o.1];exact⟨HSB.o.1,HSB.o.2.1,HSB.o.2.2.2.1,HSB.o.2.2.2.2⟩
   have hn1:S1.T.tx.length=nt/\S1.P.O.tab.length=ng:=by rw[HS1.o.1,HS1.o.2.1];exact HN.o
   rw[hsb1.1]at c9 d4 d5 c6 c10 lt m0 m1 m2 m3 m4 m5 m6
   rw[hsb1.2.1]at c4 c6
   rw[hsb1.2.2.1]at d4
   rw[hsb1.2.2.2]at d5
   rw[hn1.1]at c9 ot
   rw[hn1.2]at c4 og
   rw[hmost]at c10
   rw[hck]at m3
   rw[hpn]at m4
   rw[hbn]at m5
   rw[hfn]at m6
   have hfar:=HL2.o.1.far
   rw[hsb1.1,hsb1.2.1]at hfar
   have HFAR:=Q0 hfar
   have HE1:=Q0 (And.intro hsb1 (And.intro hpn (And.intro hbn hfn)))
   obtain⟨SW,hSW⟩:∃SW:World->Prop,SW=(fun W=>W.cell? ⟨sb,4,none⟩=some (.pointer (some ⟨db,0,none⟩))/\W.cell? ⟨sb,5,none⟩=some (.pointer (some ⟨lb,0,none⟩))/\W.cell? ⟨sb,28,none⟩=some (.int .i64 1)/\W.cell? ⟨sb,29,none⟩=some (.int .i64 0)/\W.cell? ⟨sb,30,none⟩=some (.int .i64 1)/\W.cell? ⟨sb,31,none⟩=some (.int .i64 ck)/\W.cell? ⟨sb,32,none⟩=some (.int .i64 pn)/\W.cell? ⟨sb,33,none⟩=some (.int .i64 bn)/\W.cell? ⟨sb,34,none⟩=some (.int .i64 fn)/\W.cell? ⟨sb,10,none⟩=some (.int .i64 most)/\W.cell? ⟨sb,9,none⟩=some (.slice Bt nt dt)/\W.cell? ⟨sb,6,none⟩=some (.pointer (some ⟨pb,0,none⟩))/\W.cell? ⟨pb,4,none⟩=some (.slice Bg ng dg)):=⟨_,rfl⟩
   have HPL:Sc (sb<w2.heap.size/\pb<w2.heap.size):=⟨lt,World.block_lt_of_cell? _ _ c4⟩
   have HSK:Sc (∀(Z:Nat->Prop) W,Kp Z w2 W->¬Z sb->¬Z pb->SW W):=⟨fun Z W hk h1 h2=>by
    rw[hSW]
    exact⟨Zf hk d4 h1,Zf hk d5 h1,Zf hk m0 h1,Zf hk m1 h1,Zf hk m2 h1,Zf hk m3 h1,Zf hk m4 h1,Zf hk m5 h1,Zf hk m6 h1,Zf hk c10 h1,Zf hk c9 h1,Zf hk c6 h1,Zf hk c4 h2⟩⟩
   have HSKB:Sc (∀W,Below w2.heap.size w2 W->SW W):=⟨fun W hb=>HSK.o (fun _=>False) W (Kp.Qi hb _) id id⟩
   have CW:Sc (∀X,Below w2.heap.size w2 X->Calls Tryz.prog 109 #[.pointer (some ⟨db,0,none⟩),.pointer (some ⟨lb,0,none⟩),.agg #[.int .i64 1,.int .i64 0,.int .i64 1,.int .i64 ck,.int .i64 pn,.int .i64 bn,.int .i64 fn],.int .i64 most,.slice Bt nt dt,.slice Bg ng dg] X fun e w'=>∃ck' c S',e=.returned (.tuple #[.agg #[.int .i64 1,.int .i64 0,.int .i64 1,.int .i64 ck',.int .i64 pn,.int .i64 bn,.int .i64 fn],.int .i64 c])/\Q8 (Q1 S1) (Q1 S') w2 w'/\Q8 (Q1 S1) (Q1 S') X w'/\X4f S1 S' ck'/\(∀b o,Oo X b o->w2.heap.size<=b->w'.heap[b]? =some o)/\SW w'):=⟨fun X hX=>by
    have:=Y0y X S1 k v (.slice Bt nt dt) (.slice Bg ng dg) ((Q1 S1).bel HL2.o.1 hX) HS1.o.2.2.2 HH.o.1 (by rw[HS1.o.2.1,HS1.o.2.2.1];exact HOK.o) (by rw[HS1.o.1];exact HH.o.2) (ot.below hX) (og.below hX)
    rw[hsb1.2.2.1,hsb1.2.2.2,hck,hpn,hbn,hfn,hmost]at this
    refine this.mono ?_
    rintro e w' ⟨ck',c,S',he,hl,hcl,hd⟩
    refine⟨ck',c,S',he,Part.from_ hl hX,hl,hcl,fun b o hx hb=>hl.2.1.at hx (fun hu=>by have:=(Q1 S1).lt HL2.o.1 _ hu;omega),?_⟩
    refine HSK.o (fun q=>S1.P.dl.U q\/w2.heap.size<=q) w' ((Kp.Qi hX (fun q=>S1.P.dl.U q\/w2.heap.size<=q)).trans hd.1 (fun q hq=> .inl (.inl hq))) (fun hh=> ?_) (fun hh=> ?_)
    ·rcases hh with hh|hh
     ·exact HFAR.o.1 hh
     ·have:=HPL.o.1;omega
    ·rcases hh with hh|hh
     ·exact HFAR.o.2.1 hh
     ·have:=HPL.o.2;omega⟩
   subst hSW
   have HS2:=Q0 (HSKB.o w2 (Below.refl _ _))
   have hpl1:=HPL.o.1
   have hpl2:=HPL.o.2
   have HQ2:Sc (Below w2.heap.size w2 w2):=⟨Below.refl _ _⟩
   have HW2:=Q0 HL2.o.1
   clear ot og c9 c4 d4 d5 c6 c10 lt m0 m1 m2 m3 m4 m5 m6 hmost hck hpn hbn hfn hsb1 hn1 hfar
   go_upto_region 4 with fail
   go_cut [4,5] from 31 to 64 (fun s4 s5 wx=>∃b4 c ck' S',s4=.pointer (some ⟨b4,0,none⟩)/\s5=.int .i64 c/\w2.heap.size<=b4/\Sc (Q8 (Q1 S1) (Q1 S') w2 wx)/\Sc (X4f S1 S' ck')/\Sc (wx.heap[b4]? =some (.cells #[.int .i64 1,.int .i64 0,.int .i64 1,.int .i64 ck',.int .i64 pn,.int .i64 bn,.int .i64 fn] 91 (0,0)))/\Sc (¬(Q1 S').U b4))
   case first=>
    go_region_held3 (fun W=>W.cell? ⟨sb,4,none⟩=some (.pointer (some ⟨db,0,none⟩))/\W.cell? ⟨sb,5,none⟩=some (.pointer (some ⟨lb,0,none⟩))/\W.cell? ⟨sb,28,none⟩=some (.int .i64 1)/\W.cell? ⟨sb,29,none⟩=some (.int .i64 0)/\W.cell? ⟨sb,30,none⟩=some (.int .i64 1)/\W.cell? ⟨sb,31,none⟩=some (.int .i64 ck)/\W.cell? ⟨sb,32,none⟩=some (.int .i64 pn)/\W.cell? ⟨sb,33,none⟩=some (.int .i64 bn)/\W.cell? ⟨sb,34,none⟩=some (.int .i64 fn)/\W.cell? ⟨sb,10,none⟩=some (.int .i64 most)/\W.cell? ⟨sb,9,none⟩=some (.slice Bt nt dt)/\W.cell? ⟨sb,6,none⟩=some (.pointer (some ⟨pb,0,none⟩))/\W.cell? ⟨pb,4,none⟩=some (.slice Bg ng dg))
     ((repeat (first|with_reducible assumption|with_reducible exact hss|with_reducible exact HS2.o|with_reducible refine Y3e ?_|with_reducible refine Y0g ?_ _|with_reducible refine Y5w ?_ (by omega) (by omega))))
     (first
      |(go_at_call 109;go_loud (refine(CW.o _ (by first|with_reducible exact HQ2.o|with_reducible exact Below.drew HQ2.o|with_reducible exact Q3 HQ2.o _|with_reducible exact Q3 (Below.drew HQ2.o) _|with_reducible exact Below.drew (Q3 HQ2.o _))).mono ?_;rintro e wt ⟨ck',c,S',rfl,hl,hl2,hcl,hh,hss⟩;have HLT:=Q0 hl;have HLT2:=Q0 hl2;have HCL:=Q0 hcl;have hsz:=hl.2.1.size;(first|(with_reducible have N1:=hh _ _ (Cz w2 (.cells zM 91)) (Nat.le_refl _);obtain⟨n0,n1,n2,n3,n4,n5,n6,f0,f1,f2,f3,f4,f5,f6,ln⟩:=Xx N1;have HN1:=Q0 N1;clear N1)|(with_reducible have N1:=hh _ _ (Cz w2.drew (.cells zM 91)) (Nat.le_refl _);obtain⟨n0,n1,n2,n3,n4,n5,n6,f0,f1,f2,f3,f4,f5,f6,ln⟩:=Xx N1;have HN1:=Q0 N1;clear N1)|(with_reducible have N1:=hh _ _ (Cz w2 (.cells zM 91)).drew (Nat.le_refl _);obtain⟨n0,n1,n2,n3,n4,n5,n6,f0,f1,f2,f3,f4,f5,f6,ln⟩:=Xx N1;have HN1:=Q0 N1;clear N1)|skip);clear hl hl2 hcl hh)))
    all_goals
     go_wp2_with fail
     go_meet
     case rel=>
      first
       |exact⟨_,c,ck',S',rfl,rfl,HLT.o.2.1.size,⟨Part.Q4p HLT.o _⟩,HCL,⟨heap_alloc_new _ _⟩,⟨fun hu=>by have:=(Q1 S').lt HLT.o.1 _ hu;omega⟩⟩
       |exact⟨_,c,ck',S',rfl,rfl,Nat.le_refl _,⟨by repeat (first|with_reducible exact HLT.o|with_reducible refine Part.drew ?_|with_reducible refine Part.Y9 ?_ (Nat.le_refl _) (U6 HW2.o HLT2.o (Nat.le_refl _) (by left;simp)))⟩,HCL,⟨X4m HN1.o⟩,⟨U6 HW2.o HLT2.o (Nat.le_refl _) (by left;simp)⟩⟩
   case rest=>
    obtain⟨b4,c,ck',S',rfl,rfl,hb4,HL3,HCL,HN4,HU4⟩:=hcut
    obtain⟨w3,rfl⟩:∃w3,w3=wc:=⟨_,rfl⟩
    have HT3:Sc (S'.T.sb=sb/\S'.T.pages=pn/\S'.T.bl=bn/\S'.T.Xf=fn):=⟨by rw[HCL.o.T];exact⟨HE1.o.1.1,HE1.o.2⟩⟩
    have HCS:=HL3.o.1.Y7x ck'
    have hst:=HL3.o.1.sto
    obtain⟨m0,m1,m2,m3,m4,m5,m6⟩:=hst.X5i
    have f0:=hst.frozen 28
    have f1:=hst.frozen 29
    have f2:=hst.frozen 30
    have f3:=hst.frozen 31
    have f4:=hst.frozen 32
    have f5:=hst.frozen 33
    have f6:=hst.frozen 34
    have lt3:=hst.cells.2.2.2.2.2.2.2
    rw[HT3.o.1,HT3.o.2.1,HT3.o.2.2.1,HT3.o.2.2.2]at HCS
    rw[HT3.o.1]at m0 m1 m2 m3 m4 m5 m6 f0 f1 f2 f3 f4 f5 f6 lt3
    have HCS:=Q0 HCS
    obtain⟨n0,n1,n2,n3,n4,n5,n6,_,_,_,_,_,_,_,ln⟩:=Xx HN4.o
    clear hst hb4
    go_wp2_with fail
    go_ret
    refine⟨⟨c,rfl⟩,S'.Y7a ck',?_,?_,?_,?_⟩
    ·have hl:=Part.trans HL2.o (Part.trans HL3.o HCS.o)
     exact hl
    ·show Kept S.T (S'.Y7a ck').T
     have:S'.T=S.T:=HCL.o.T.trans HS1.o.1
     show Kept S.T {S'.T with ck:=ck'}
     rw[this]
     exact Ys S.T
    ·have h1:=HS1.o.2.2.2
     have hT:=HCL.o.T
     refine⟨?_,?_,?_,?_,?_,?_,?_,h1.small,?_,?_⟩
     ·show S'.T.Qu<=8;rw[hT];exact h1.Qu
     ·show S'.T.lk.length<=k;rw[hT];exact h1.lk
     ·show S'.T.wt.length<=k*k;rw[hT];exact h1.wt
     ·show S'.T.tx.length<=k;rw[hT];exact h1.tx
     ·show S'.T.most<=k;rw[hT];exact h1.most
     ·show S'.P.D.vm<=v;exact Nat.le_trans HCL.o.vm h1.vm
     ·show S'.f+S'.k<=400;rw[HCL.o.f,HCL.o.k];exact h1.sp
     ·show ∀x∈S'.T.sav,x.l.length<=20;rw[hT];exact h1.sav
     ·show ∀h∈S'.T.lk,h.2.2<=2;rw[hT];exact h1.md
    ·show Ok S'.P.pages (6*S'.P.bl) {S'.abs with ck:=ck'}
     rw[HCL.o.pages,HCL.o.bl]
     exact HCL.o.ok
  ·have HC0:=Q0 hc0
   have e0:(c !=0)=true:=by simp[hc0]
   clear hc0
   go_wp2_with fail
   go_ret
   exact⟨⟨c,rfl⟩,S1,HL2.o,by rw[HS1.o.1];exact Kept.refl _,HS1.o.2.2.2,by rw[HS1.o.2.1,HS1.o.2.2.1];exact HOK.o⟩
end Go.Proofs.YtoapihepdallbaaGreatDoor
