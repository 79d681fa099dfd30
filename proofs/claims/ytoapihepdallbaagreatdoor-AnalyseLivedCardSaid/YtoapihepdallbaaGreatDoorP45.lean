import Derived.Test.YtoapihepdallbaaGreatDoorP44
namespace Go.Proofs.YtoapihepdallbaaGreatDoor
open Go.RowKit
set_option maxRecDepth 8000 in
set_option maxHeartbeats 8000000 in
theorem X4q(w:World)(S:WG)(eb n key N hint k v:Nat)(V Qu:Int)(he:On S eb Qu w)(hf:Ut S n key N hint V k v):
  Calls Tryz.prog 20 #[.pointer (some ⟨eb,0,none⟩),.agg #[.int .i64 9,.int .i64 n,.int .i64 key,.int .i64 N,.int .i64 hint,.int .i64 V,.slice none 0 0]] w (Ur S k v w):=by
 have HE:=Q0 he
 have HF:=Q0 hf
 obtain⟨w1,hw1⟩:∃w1,(w.alloc (.cells #[.int .i64 9,.int .i64 n,.int .i64 key,.int .i64 N,.int .i64 hint,.int .i64 V,.slice none 0 0] 71)).alloc (.cells J3 73)=w1:=⟨_,rfl⟩
 have HB1:Sc (Below w.heap.size w w1):=⟨hw1▸Q3 (Q3 (Below.refl _ _) _) _⟩
 have H2:=Ym w (.cells #[.int .i64 9,.int .i64 n,.int .i64 key,.int .i64 N,.int .i64 hint,.int .i64 V,.slice none 0 0] 71) (.cells J3 73)
 rw[hw1]at H2
 have HBS:Sc (w1.heap.size=w.heap.size+2):=⟨by rw[<-hw1];simp⟩
 obtain⟨b3,hb3⟩:∃b,w.heap.size=b:=⟨_,rfl⟩
 have HB3:=Q0 hb3
 rw[hb3]at H2
 have H2:=Q0 H2
 have HZ:Sc (Qh S w1):=⟨(Q1 S).bel he.whole HB1.o⟩
 have HNO:Sc (∀q,b3<=q->¬(Q1 S).U q):=⟨fun q hq hu=>by have:=(Q1 S).lt HE.o.whole _ hu;have:=HB3.o;omega⟩
 have HBX:Sc (∀W,Kp (Q1 S).U w1 W->W.heap[b3+1]? =some (.cells J3 73 (0,0))):=⟨fun W hk=>hk.at H2.o.2 (HNO.o _ (by omega))⟩
 obtain⟨o0,o1,o2,o3,o4,o5,o6,_,_,_,_,_,_,_,lo⟩:=Xx H2.o.1
 obtain⟨e0,e1,_,_,_,_,le⟩:=Q7 (up HB1.o he.blk)
 obtain⟨_,_,g2,lg⟩:=HZ.o.X2.dl.V8.cells
 rw[<-HZ.o.X2.db,<-HZ.o.pd]at g2 lg
 obtain⟨_,_,_,_,c6,_,_,lt⟩:=HZ.o.sto.cells
 obtain⟨sb,hsb⟩:∃sb,S.T.sb=sb:=⟨_,rfl⟩
 obtain⟨db,hdb⟩:∃db,S.T.db=db:=⟨_,rfl⟩
 obtain⟨pb,hpb⟩:∃pb,S.T.pb=pb:=⟨_,rfl⟩
 have CO:=X3g w1 S k v HZ.o hf.cnt (by have:=hf.v;omega) hf.ok hf.fr
 rw[hsb]at CO
 rw[hsb]at e1 c6 lt
 rw[hdb]at e0 g2 lg
 rw[hpb]at c6
 have CO:=Q0 CO
 clear he hf hsb hdb hpb
 go_enter Tryz.func20,Tryz.ntmps20
 go_wp2_with fail
 try rw[hw1]
 try rw[hb3]
 clear hw1 hb3
 refine CO.o.mono ?_
 rintro e w2 ⟨⟨c,rfl⟩,S1,hd⟩
 have HD:=Q0 (Yn.wide hd (by omega) (by have:=HF.o.k;omega) (by omega):Yn S S1 (k+1) (v+401) w1 w2)
 have HU:Sc (¬(Q1 S1).U (b3+1)):=⟨fun hu=>(hd.leaves.2.2 _ hu).elim (HNO.o _ (by omega)) (fun hn=>by have:=HBS.o;have:=HB3.o;omega)⟩
 have HL2:=Q0 hd.leaves
 clear hd o0 o1 o2 o3 o4 o5 o6 lo e0 e1 le g2 lg c6 lt
 go_wp2_with fail
 refine(El _ c).mono ?_
 rintro e w3 ⟨rfl,hb⟩
 have HL:=Q0 (Part.Qs HL2.o hb)
 obtain⟨z0,z1,z2,z3,z4,y0,y1,y2,y3,y4,lz⟩:=Vv (HBX.o w3 HL.o.2.1)
 clear hb
 go_wp2
 refine bodyPost_ret (v:=.agg #[.int .i64 c,.bool false,.int .i64 0,.bool false,.int .i64 0]) (by simp[results,Tryz.results20,go_sem,z0,z1,z2,z3,z4]) rfl ⟨⟨_,rfl⟩,S1,?_,HD.o.kept,HD.o.cnt,HD.o.ok⟩
 have e3:=HB3.o
 have hu:=HU.o
 have hl:=Part.from_ HL.o HB1.o
 repeat (first|with_reducible exact hl|with_reducible refine Part.drew ?_|with_reducible refine Part.Y9 ?_ (by omega) hu)
set_option maxRecDepth 8000 in
set_option maxHeartbeats 8000000 in
theorem X1k(w:World)(S:WG)(eb n key N hint k v:Nat)(V Qu:Int)(he:On S eb Qu w)(hf:Ut S n key N hint V k v):
  Calls Tryz.prog 20 #[.pointer (some ⟨eb,0,none⟩),.agg #[.int .i64 10,.int .i64 n,.int .i64 key,.int .i64 N,.int .i64 hint,.int .i64 V,.slice none 0 0]] w (Ur S k v w):=by
 have HE:=Q0 he
 have HF:=Q0 hf
 obtain⟨w1,hw1⟩:∃w1,(w.alloc (.cells #[.int .i64 10,.int .i64 n,.int .i64 key,.int .i64 N,.int .i64 hint,.int .i64 V,.slice none 0 0] 71)).alloc (.cells J3 73)=w1:=⟨_,rfl⟩
 have HB1:Sc (Below w.heap.size w w1):=⟨hw1▸Q3 (Q3 (Below.refl _ _) _) _⟩
 have H2:=Ym w (.cells #[.int .i64 10,.int .i64 n,.int .i64 key,.int .i64 N,.int .i64 hint,.int .i64 V,.slice none 0 0] 71) (.cells J3 73)
 rw[hw1]at H2
 have HBS:Sc (w1.heap.size=w.heap.size+2):=⟨by rw[<-hw1];simp⟩
 obtain⟨b3,hb3⟩:∃b,w.heap.size=b:=⟨_,rfl⟩
 have HB3:=Q0 hb3
 rw[hb3]at H2
 have H2:=Q0 H2
 have HZ:Sc (Qh S w1):=⟨(Q1 S).bel he.whole HB1.o⟩
 have HNO:Sc (∀q,b3<=q->¬(Q1 S).U q):=⟨fun q hq hu=>by have:=(Q1 S).lt HE.o.whole _ hu;have:=HB3.o;omega⟩
 have HBX:Sc (∀W,Kp (Q1 S).U w1 W->W.heap[b3+1]? =some (.cells J3 73 (0,0))):=⟨fun W hk=>hk.at H2.o.2 (HNO.o _ (by omega))⟩
 obtain⟨o0,o1,o2,o3,o4,o5,o6,_,_,_,_,_,_,_,lo⟩:=Xx H2.o.1
 obtain⟨e0,e1,_,_,_,_,le⟩:=Q7 (up HB1.o he.blk)
 obtain⟨_,_,g2,lg⟩:=HZ.o.X2.dl.V8.cells
 rw[<-HZ.o.X2.db,<-HZ.o.pd]at g2 lg
 obtain⟨_,_,_,_,c6,_,_,lt⟩:=HZ.o.sto.cells
 obtain⟨sb,hsb⟩:∃sb,S.T.sb=sb:=⟨_,rfl⟩
 obtain⟨db,hdb⟩:∃db,S.T.db=db:=⟨_,rfl⟩
 obtain⟨pb,hpb⟩:∃pb,S.T.pb=pb:=⟨_,rfl⟩
 have CO:=(fun X hX=>(X2h X S N k v ((Q1 S).bel HZ.o hX) hf.cnt (by have:=hf.v;omega) hf.ok).mono fun e w' ⟨he,S1,hd⟩=>⟨he,S1,(⟨Part.from_ hd.leaves hX,hd.kept,hd.cnt.up (by omega) (by have:=hf.k;omega) (by omega),hd.ok⟩:Yn S S1 (k+1) (v+401) w1 w')⟩:∀X,Below w1.heap.size w1 X->Calls Tryz.prog 66 #[.pointer (some ⟨S.T.pb,0,none⟩),.int .i64 N] X fun e w'=>(∃c,e=.returned (.int .i64 c))/\∃S1,Yn S S1 (k+1) (v+401) w1 w')
 rw[hpb]at CO
 rw[hsb]at e1 c6 lt
 rw[hdb]at e0 g2 lg
 rw[hpb]at c6
 have CO:=Q0 CO
 clear he hf hsb hdb hpb
 go_enter Tryz.func20,Tryz.ntmps20
 have HR:Sc (Below w1.heap.size w1 w1):=⟨Below.refl _ _⟩
 go_upto_region 38 with fail
 try rw[hw1]
 try rw[hb3]
 clear hw1 hb3
 go_region_law
  (first
   |(go_simp;go_at_call 66;go_loud (refine(CO.o _ (by first|with_reducible exact HR.o|with_reducible exact Below.drew HR.o)).mono ?_;rintro e w2 ⟨⟨c,rfl⟩,S1,hd⟩;have HD:=Q0 hd;clear hd))
   |(go_simp;go_at_call 55;go_loud (refine(El _ c).mono ?_;rintro e w3 ⟨rfl,hb⟩;have HL:=Q0 (Part.Qs HD.o.leaves hb);obtain⟨z0,z1,z2,z3,z4,y0,y1,y2,y3,y4,lz⟩:=Vv (HBX.o w3 (Part.Qs HD.o.leaves hb).2.1);clear hb)))
 all_goals
  have HU:Sc (¬(Q1 S1).U (b3+1)):=⟨fun hu=>(HD.o.leaves.2.2 _ hu).elim (HNO.o _ (by omega)) (fun hn=>by have:=HBS.o;have:=HB3.o;omega)⟩
  go_wp2
  refine bodyPost_ret (v:=.agg #[.int .i64 c,.bool false,.int .i64 0,.bool false,.int .i64 0]) (by simp[results,Tryz.results20,go_sem,z0,z1,z2,z3,z4]) rfl ⟨⟨_,rfl⟩,S1,?_,HD.o.kept,HD.o.cnt,HD.o.ok⟩
  have e3:=HB3.o
  have hu:=HU.o
  have hl:=Part.from_ HL.o HB1.o
  repeat (first|with_reducible exact hl|with_reducible refine Part.drew ?_|with_reducible refine Part.Y9 ?_ (by omega) hu)
set_option maxRecDepth 8000 in
set_option maxHeartbeats 8000000 in
theorem Q4c(w:World)(S:WG)(eb n key N hint k v:Nat)(V Qu:Int)(he:On S eb Qu w)(hf:Ut S n key N hint V k v):
  Calls Tryz.prog 20 #[.pointer (some ⟨eb,0,none⟩),.agg #[.int .i64 11,.int .i64 n,.int .i64 key,.int .i64 N,.int .i64 hint,.int .i64 V,.slice none 0 0]] w (Ur S k v w):=by
 have HE:=Q0 he
 have HF:=Q0 hf
 obtain⟨w1,hw1⟩:∃w1,(w.alloc (.cells #[.int .i64 11,.int .i64 n,.int .i64 key,.int .i64 N,.int .i64 hint,.int .i64 V,.slice none 0 0] 71)).alloc (.cells J3 73)=w1:=⟨_,rfl⟩
 have HB1:Sc (Below w.heap.size w w1):=⟨hw1▸Q3 (Q3 (Below.refl _ _) _) _⟩
 have H2:=Ym w (.cells #[.int .i64 11,.int .i64 n,.int .i64 key,.int .i64 N,.int .i64 hint,.int .i64 V,.slice none 0 0] 71) (.cells J3 73)
 rw[hw1]at H2
 have HBS:Sc (w1.heap.size=w.heap.size+2):=⟨by rw[<-hw1];simp⟩
 obtain⟨b3,hb3⟩:∃b,w.heap.size=b:=⟨_,rfl⟩
 have HB3:=Q0 hb3
 rw[hb3]at H2
 have H2:=Q0 H2
 have HZ:Sc (Qh S w1):=⟨(Q1 S).bel he.whole HB1.o⟩
 have HNO:Sc (∀q,b3<=q->¬(Q1 S).U q):=⟨fun q hq hu=>by have:=(Q1 S).lt HE.o.whole _ hu;have:=HB3.o;omega⟩
 have HBX:Sc (∀W,Kp (Q1 S).U w1 W->W.heap[b3+1]? =some (.cells J3 73 (0,0))):=⟨fun W hk=>hk.at H2.o.2 (HNO.o _ (by omega))⟩
 obtain⟨o0,o1,o2,o3,o4,o5,o6,_,_,_,_,_,_,_,lo⟩:=Xx H2.o.1
 obtain⟨e0,e1,_,_,_,_,le⟩:=Q7 (up HB1.o he.blk)
 obtain⟨_,_,g2,lg⟩:=HZ.o.X2.dl.V8.cells
 rw[<-HZ.o.X2.db,<-HZ.o.pd]at g2 lg
 obtain⟨_,_,_,_,c6,_,_,lt⟩:=HZ.o.sto.cells
 obtain⟨sb,hsb⟩:∃sb,S.T.sb=sb:=⟨_,rfl⟩
 obtain⟨db,hdb⟩:∃db,S.T.db=db:=⟨_,rfl⟩
 obtain⟨pb,hpb⟩:∃pb,S.T.pb=pb:=⟨_,rfl⟩
 have CO:=Q4s w1 S k v HZ.o hf.cnt (by have:=hf.v;omega) hf.ok
 rw[hpb]at CO
 rw[hsb]at e1 c6 lt
 rw[hdb]at e0 g2 lg
 rw[hpb]at c6
 have CO:=Q0 CO
 clear he hf hsb hdb hpb
 go_enter Tryz.func20,Tryz.ntmps20
 go_wp2_with fail
 try rw[hw1]
 try rw[hb3]
 clear hw1 hb3
 refine CO.o.mono ?_
 rintro e w2 ⟨⟨c,rfl⟩,S1,hd⟩
 have HD:=Q0 (Yn.wide hd (by omega) (by have:=HF.o.k;omega) (by omega):Yn S S1 (k+1) (v+401) w1 w2)
 have HU:Sc (¬(Q1 S1).U (b3+1)):=⟨fun hu=>(hd.leaves.2.2 _ hu).elim (HNO.o _ (by omega)) (fun hn=>by have:=HBS.o;have:=HB3.o;omega)⟩
 have HL2:=Q0 hd.leaves
 clear hd o0 o1 o2 o3 o4 o5 o6 lo e0 e1 le g2 lg c6 lt
 go_wp2_with fail
 refine(El _ c).mono ?_
 rintro e w3 ⟨rfl,hb⟩
 have HL:=Q0 (Part.Qs HL2.o hb)
 obtain⟨z0,z1,z2,z3,z4,y0,y1,y2,y3,y4,lz⟩:=Vv (HBX.o w3 HL.o.2.1)
 clear hb
 go_wp2
 refine bodyPost_ret (v:=.agg #[.int .i64 c,.bool false,.int .i64 0,.bool false,.int .i64 0]) (by simp[results,Tryz.results20,go_sem,z0,z1,z2,z3,z4]) rfl ⟨⟨_,rfl⟩,S1,?_,HD.o.kept,HD.o.cnt,HD.o.ok⟩
 have e3:=HB3.o
 have hu:=HU.o
 have hl:=Part.from_ HL.o HB1.o
 repeat (first|with_reducible exact hl|with_reducible refine Part.drew ?_|with_reducible refine Part.Y9 ?_ (by omega) hu)
end Go.Proofs.YtoapihepdallbaaGreatDoor
