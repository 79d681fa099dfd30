import Derived.Test.YtoapihepdallbaaGreatDoorP42
import Derived.Test.YtoapihepdallbaaGreatDoorP43
import Derived.Test.YtoapihepdallbaaGreatDoorP45
namespace Go.Proofs.YtoapihepdallbaaGreatDoor
open Go.RowKit
set_option maxRecDepth 8000 in
set_option maxHeartbeats 8000000 in
theorem X1j(w:World)(S:WG)(eb n key N hint k v:Nat)(V Qu:Int)(he:On S eb Qu w)(hf:Ut S n key N hint V k v):
  Calls Tryz.prog 20 #[.pointer (some ⟨eb,0,none⟩),.agg #[.int .i64 12,.int .i64 n,.int .i64 key,.int .i64 N,.int .i64 hint,.int .i64 V,.slice none 0 0]] w (Ur S k v w):=by
 have HE:=Q0 he
 have HF:=Q0 hf
 obtain⟨w1,hw1⟩:∃w1,(w.alloc (.cells #[.int .i64 12,.int .i64 n,.int .i64 key,.int .i64 N,.int .i64 hint,.int .i64 V,.slice none 0 0] 71)).alloc (.cells J3 73)=w1:=⟨_,rfl⟩
 have HB1:Sc (Below w.heap.size w w1):=⟨hw1▸Q3 (Q3 (Below.refl _ _) _) _⟩
 have H2:=Ym w (.cells #[.int .i64 12,.int .i64 n,.int .i64 key,.int .i64 N,.int .i64 hint,.int .i64 V,.slice none 0 0] 71) (.cells J3 73)
 rw[hw1]at H2
 have HBS:Sc (w1.heap.size=w.heap.size+2):=⟨by rw[<-hw1];simp⟩
 obtain⟨b3,hb3⟩:∃b,w.heap.size=b:=⟨_,rfl⟩
 have HB3:=Q0 hb3
 rw[hb3]at H2
 have H2:=Q0 H2
 have HZ:Sc (Qh S w1):=⟨(Q1 S).bel he.whole HB1.o⟩
 have HNO:Sc (∀q,b3<=q->¬(Q1 S).U q):=⟨fun q hq hu=>by have:=(Q1 S).lt HE.o.whole _ hu;have:=HB3.o;omega⟩
 have HBX:Sc (∀W,Kp (Q1 S).U w1 W->W.heap[b3+1]? =some (.cells J3 73 (0,0))):=⟨fun W hk=>hk.at H2.o.2 (HNO.o _ (by omega))⟩
 obtain⟨o0,o1,o2,o3,o4,o5,o6,_,_,_,_,_,_,_,lo⟩:=Xx H2.o.1
 obtain⟨e0,e1,_,_,_,_,le⟩:=Q7 (up HB1.o he.blk)
 obtain⟨_,_,g2,lg⟩:=HZ.o.X2.dl.V8.cells
 rw[<-HZ.o.X2.db,<-HZ.o.pd]at g2 lg
 obtain⟨_,_,_,_,c6,_,_,lt⟩:=HZ.o.sto.cells
 obtain⟨sb,hsb⟩:∃sb,S.T.sb=sb:=⟨_,rfl⟩
 obtain⟨db,hdb⟩:∃db,S.T.db=db:=⟨_,rfl⟩
 obtain⟨pb,hpb⟩:∃pb,S.T.pb=pb:=⟨_,rfl⟩
 have CO:=(fun X hX=>(X2g X S hint k v ((Q1 S).bel HZ.o hX) hf.cnt (by have:=hf.v;omega) hf.ok hf.hint).mono fun e w' ⟨he,S1,hd⟩=>⟨he,S1,(⟨Part.from_ hd.leaves hX,hd.kept,hd.cnt.up (by omega) (by have:=hf.k;omega) (by omega),hd.ok⟩:Yn S S1 (k+1) (v+401) w1 w')⟩:∀X,Below w1.heap.size w1 X->Calls Tryz.prog 68 #[.pointer (some ⟨S.T.pb,0,none⟩),.int .i64 hint] X fun e w'=>(∃c,e=.returned (.int .i64 c))/\∃S1,Yn S S1 (k+1) (v+401) w1 w')
 rw[hpb]at CO
 rw[hsb]at e1 c6 lt
 rw[hdb]at e0 g2 lg
 rw[hpb]at c6
 have CO:=Q0 CO
 clear he hf hsb hdb hpb
 go_enter Tryz.func20,Tryz.ntmps20
 have HR:Sc (Below w1.heap.size w1 w1):=⟨Below.refl _ _⟩
 go_upto_region 42 with fail
 try rw[hw1]
 try rw[hb3]
 clear hw1 hb3
 go_region_law
  (first
   |(go_simp;go_at_call 68;go_loud (refine(CO.o _ (by first|with_reducible exact HR.o|with_reducible exact Below.drew HR.o)).mono ?_;rintro e w2 ⟨⟨c,rfl⟩,S1,hd⟩;have HD:=Q0 hd;clear hd))
   |(go_simp;go_at_call 55;go_loud (refine(El _ c).mono ?_;rintro e w3 ⟨rfl,hb⟩;have HL:=Q0 (Part.Qs HD.o.leaves hb);obtain⟨z0,z1,z2,z3,z4,y0,y1,y2,y3,y4,lz⟩:=Vv (HBX.o w3 (Part.Qs HD.o.leaves hb).2.1);clear hb)))
 all_goals
  have HU:Sc (¬(Q1 S1).U (b3+1)):=⟨fun hu=>(HD.o.leaves.2.2 _ hu).elim (HNO.o _ (by omega)) (fun hn=>by have:=HBS.o;have:=HB3.o;omega)⟩
  go_wp2
  refine bodyPost_ret (v:=.agg #[.int .i64 c,.bool false,.int .i64 0,.bool false,.int .i64 0]) (by simp[results,Tryz.results20,go_sem,z0,z1,z2,z3,z4]) rfl ⟨⟨_,rfl⟩,S1,?_,HD.o.kept,HD.o.cnt,HD.o.ok⟩
  have e3:=HB3.o
  have hu:=HU.o
  have hl:=Part.from_ HL.o HB1.o
  repeat (first|with_reducible exact hl|with_reducible refine Part.drew ?_|with_reducible refine Part.Y9 ?_ (by omega) hu)
set_option maxRecDepth 8000 in
set_option maxHeartbeats 8000000 in
theorem Q4d(w:World)(S:WG)(eb n key N hint k v:Nat)(V Qu:Int)(he:On S eb Qu w)(hf:Ut S n key N hint V k v):
  Calls Tryz.prog 20 #[.pointer (some ⟨eb,0,none⟩),.agg #[.int .i64 13,.int .i64 n,.int .i64 key,.int .i64 N,.int .i64 hint,.int .i64 V,.slice none 0 0]] w (Ur S k v w):=by
 have HE:=Q0 he
 have HF:=Q0 hf
 obtain⟨w1,hw1⟩:∃w1,(w.alloc (.cells #[.int .i64 13,.int .i64 n,.int .i64 key,.int .i64 N,.int .i64 hint,.int .i64 V,.slice none 0 0] 71)).alloc (.cells J3 73)=w1:=⟨_,rfl⟩
 have HB1:Sc (Below w.heap.size w w1):=⟨hw1▸Q3 (Q3 (Below.refl _ _) _) _⟩
 have H2:=Ym w (.cells #[.int .i64 13,.int .i64 n,.int .i64 key,.int .i64 N,.int .i64 hint,.int .i64 V,.slice none 0 0] 71) (.cells J3 73)
 rw[hw1]at H2
 have HBS:Sc (w1.heap.size=w.heap.size+2):=⟨by rw[<-hw1];simp⟩
 obtain⟨b3,hb3⟩:∃b,w.heap.size=b:=⟨_,rfl⟩
 have HB3:=Q0 hb3
 rw[hb3]at H2
 have H2:=Q0 H2
 have HZ:Sc (Qh S w1):=⟨(Q1 S).bel he.whole HB1.o⟩
 have HNO:Sc (∀q,b3<=q->¬(Q1 S).U q):=⟨fun q hq hu=>by have:=(Q1 S).lt HE.o.whole _ hu;have:=HB3.o;omega⟩
 have HBX:Sc (∀W,Kp (Q1 S).U w1 W->W.heap[b3+1]? =some (.cells J3 73 (0,0))):=⟨fun W hk=>hk.at H2.o.2 (HNO.o _ (by omega))⟩
 obtain⟨o0,o1,o2,o3,o4,o5,o6,_,_,_,_,_,_,_,lo⟩:=Xx H2.o.1
 obtain⟨e0,e1,_,_,_,_,le⟩:=Q7 (up HB1.o he.blk)
 obtain⟨_,_,g2,lg⟩:=HZ.o.X2.dl.V8.cells
 rw[<-HZ.o.X2.db,<-HZ.o.pd]at g2 lg
 obtain⟨_,_,_,_,c6,_,_,lt⟩:=HZ.o.sto.cells
 obtain⟨sb,hsb⟩:∃sb,S.T.sb=sb:=⟨_,rfl⟩
 obtain⟨db,hdb⟩:∃db,S.T.db=db:=⟨_,rfl⟩
 obtain⟨pb,hpb⟩:∃pb,S.T.pb=pb:=⟨_,rfl⟩
 have CO:=Q2y w1 S N hint k v HZ.o hf.cnt (by have:=hf.v;omega) hf.ok hf.N hf.hint
 rw[hsb]at CO
 rw[hsb]at e1 c6 lt
 rw[hdb]at e0 g2 lg
 rw[hpb]at c6
 have CO:=Q0 CO
 clear he hf hsb hdb hpb
 go_enter Tryz.func20,Tryz.ntmps20
 go_wp2_with fail
 try rw[hw1]
 try rw[hb3]
 clear hw1 hb3
 refine CO.o.mono ?_
 rintro e w2 ⟨⟨c,rfl⟩,S1,hd⟩
 have HD:=Q0 (Yn.wide hd (by omega) (by have:=HF.o.k;omega) (by omega):Yn S S1 (k+1) (v+401) w1 w2)
 have HU:Sc (¬(Q1 S1).U (b3+1)):=⟨fun hu=>(hd.leaves.2.2 _ hu).elim (HNO.o _ (by omega)) (fun hn=>by have:=HBS.o;have:=HB3.o;omega)⟩
 have HL2:=Q0 hd.leaves
 clear hd o0 o1 o2 o3 o4 o5 o6 lo e0 e1 le g2 lg c6 lt
 have HL:=HL2
 obtain⟨z0,z1,z2,z3,z4,y0,y1,y2,y3,y4,lz⟩:=Vv (HBX.o w2 HL.o.2.1)
 go_wp2
 refine bodyPost_ret (v:=.agg #[.int .i64 c,.bool false,.int .i64 0,.bool false,.int .i64 0]) (by simp[results,Tryz.results20,go_sem,z0,z1,z2,z3,z4]) rfl ⟨⟨_,rfl⟩,S1,?_,HD.o.kept,HD.o.cnt,HD.o.ok⟩
 have e3:=HB3.o
 have hu:=HU.o
 have hl:=Part.from_ HL.o HB1.o
 repeat (first|with_reducible exact hl|with_reducible refine Part.drew ?_|with_reducible refine Part.Y9 ?_ (by omega) hu)
theorem Y7y(w:World)(S:WG)(eb k v ss:Nat)(Qu:Int)(x:OpD)(he:On S eb Qu w)(hx:X0t ss x)(h14:x.kd≠14)(hss:S.T.Qu=ss)(hc:Cnt S k v)(hk:k<200)(hv:v<=500000)(hok:Ok S.P.pages (6*S.P.bl) S.abs)(hfr:1<=S.T.Xf/\S.T.Xf<=8):
  Calls Tryz.prog 20 #[.pointer (some ⟨eb,0,none⟩),.agg #[.int .i64 x.kd,.int .i64 x.n,.int .i64 x.key,.int .i64 x.N,.int .i64 x.hint,.int .i64 x.V,.slice none 0 0]] w (Ur S k v w):=by
 obtain⟨kd,n,key,N,hint,V⟩:=x
 obtain⟨k1,k2,hn,hkey,hN,hhint,hV⟩:=hx
 have hn':n<S.T.Qu:=by have:(n:Int)<ss:=hn;omega
 have k1':1<=kd:=k1
 have k2':kd<=14:=k2
 have h14':kd≠14:=h14
 have hkey':key<30:=hkey
 have hN':N<4:=hN
 have hhint':hint<9:=hhint
 have hV':V<500:=hV
 have fit:Ut S n key N hint V k v:=⟨hn',hc,hk,hv,hok,by omega,by omega,by omega,by omega,hfr⟩
 rcases(by omega:kd=1\/kd=2\/kd=3\/kd=4\/kd=5\/kd=6\/kd=7\/kd=8\/kd=9\/kd=10\/kd=11\/kd=12\/kd=13) with rfl|rfl|rfl|rfl|rfl|rfl|rfl|rfl|rfl|rfl|rfl|rfl|rfl
 ·exact X1i w S eb n key N hint k v V Qu he fit
 ·exact X8f w S eb n key N hint k v V Qu he fit
 ·exact X8g w S eb n key N hint k v V Qu he fit
 ·exact Q9f w S eb n key N hint k v V Qu he fit
 ·exact X4r w S eb n key N hint k v V Qu he fit
 ·exact X4p w S eb n key N hint k v V Qu he fit
 ·exact Q9e w S eb n key N hint k v V Qu he fit
 ·exact X1h w S eb n key N hint k v V Qu he fit
 ·exact X4q w S eb n key N hint k v V Qu he fit
 ·exact X1k w S eb n key N hint k v V Qu he fit
 ·exact Q4c w S eb n key N hint k v V Qu he fit
 ·exact X1j w S eb n key N hint k v V Qu he fit
 ·exact Q4d w S eb n key N hint k v V Qu he fit
theorem On.after{S S':WG}{eb k v:Nat}{Qu:Int}{w w':World}(h:On S eb Qu w)(hd:Yn S S' k v w w'):On S' eb Qu w':=
 ⟨hd.leaves.1,by rw[hd.kept.db,hd.kept.sb];exact hd.leaves.2.1.at h.blk h.far,fun hu=>(hd.leaves.2.2 _ hu).elim h.far (fun hn=>by have:=Q6 h.blk;omega)⟩
structure Da(p:Nat)(L:List Q9)(ck:Int):Prop where
 p1:1<=p
 p4:p<=4
 len:L.length<=384
 Jo:∀r∈L,Qq r=true
 Yc:∃A:Abs,Gy p A/\A.L=L/\A.ck=ck
def X8a(w:World)(e:Ending)(w':World):Prop:=
 ∃v ck p,∃L:List Q9,e=.returned (.tuple #[v,.int .i64 ck,.int .i64 (p:Nat)])/\Own Xq 10 49 w.heap.size w' v L/\Below w.heap.size w w'/\Da p L ck
set_option maxRecDepth 4000 in
set_option maxHeartbeats 8000000 in
theorem Q8f(w:World)(a:Option Addr)(len cap:Nat)(zs:List Int)(h:Uf .i64 w a len cap zs)(hlen:len<=1000):
  Calls Tryz.prog 6 #[.slice a len cap] w (X8a w):=by
 have CS:=Q0 (X6h w a len cap zs h hlen)
 clear h
 go_enter Tryz.func6,Tryz.ntmps6
 go_wp2_with fail
 refine CS.o.mono ?_
 rintro e w1 ⟨p,q,f,s,v,l,hcfg,rfl,hl60,hops,hown,hb1⟩
 obtain⟨p1,p4,q1,q4,f1,f4,s1,s4⟩:=hcfg
 obtain⟨pn,rfl⟩:=Int.eq_ofNat_of_zero_le (by omega:0<=p)
 obtain⟨qn,rfl⟩:=Int.eq_ofNat_of_zero_le (by omega:0<=q)
 obtain⟨fn,rfl⟩:=Int.eq_ofNat_of_zero_le (by omega:0<=f)
 obtain⟨sn,rfl⟩:=Int.eq_ofNat_of_zero_le (by omega:0<=s)
 have HP:Sc ((1<=pn/\pn<=4)/\(2<=qn/\qn<=31)/\(1<=fn/\fn<=4)/\(1<=sn/\sn<=4)):=⟨by omega⟩
 obtain⟨Ao,co,rfl,hnc,hcm⟩:=hown.slice
 obtain⟨m,hm⟩:∃m,l.length=m:=⟨_,rfl⟩
 rw[hm]at hown hl60 hnc ⊢
 have HM:=Q0 hm
 have HOP:=Q0 hops
 have HB1:=Q0 hb1
 have HO1:=Q0 hown
 clear hops hb1 hown hm p1 p4 q1 q4 f1 f4 s1 s4 hnc
 go_upto_region 2 with fail
 obtain⟨w2,hw2⟩:∃w2,w1.alloc (.cells #[.int .i64 pn,.int .i64 qn,.int .i64 fn,.int .i64 sn] 63)=w2:=⟨_,rfl⟩
 obtain⟨b5,hb5⟩:∃b5,w1.heap.size=b5:=⟨_,rfl⟩
 have HB2:Sc (Below w1.heap.size w1 w2):=⟨by rw[<-hw2];exact Q3 (Below.refl _ _) _⟩
 have HN2:Sc (w2.heap[b5]? =some (.cells #[.int .i64 pn,.int .i64 qn,.int .i64 fn,.int .i64 sn] 63 (0,0))):=⟨by rw[<-hw2,<-hb5];exact heap_alloc_new _ _⟩
 have HO2:=Q0 (HO1.o.below HB2.o)
 rw[hw2]
 try rw[hb5]
 clear hw2 hb5
 obtain⟨c0,c1,c2,c3,_,_,_,_,lc⟩:=Qz HN2.o
 have CC:=Q0 (X4n w2 pn qn fn sn HP.o.1 HP.o.2.1 HP.o.2.2.1 HP.o.2.2.2)
 go_wp2_with fail
 refine CC.o.mono ?_
 rintro e w3 ⟨eb,S0,rfl,heng,hst,hu,heb,hb3⟩
 have HE0:=Q0 heng
 have HST:=Q0 hst
 have HU0:=Q0 hu
 have HEB:=Q0 heb
 have HB3:=Q0 hb3
 clear heng hst hu heb hb3 c0 c1 c2 c3 lc
 go_wp2_with fail
 go_loopg [9] m (fun kx s9 wr=>∃(i k:Nat) (S:WG),s9=.int .i64 i/\i<=m/\m - i<=kx/\k<=i/\Sc (Below w2.heap.size w2 wr)/\Sc (On S eb sn wr)/\Sc (∀z,(Q1 S).U z->w2.heap.size<=z)/\Sc (Cnt S k (1+401*k)/\Ok S.P.pages (6*S.P.bl) S.abs/\S.T.pages=pn/\S.T.Xf=fn/\S.T.Qu=sn))
 case atStart=>exact⟨0,0,S0,rfl,Nat.zero_le _,by omega,Nat.le_refl _,HB3,HE0,HU0,⟨HST.o.cnt,HST.o.ok,HST.o.pages,HST.o.Xf,HST.o.Qu⟩⟩
 case round=>
  obtain⟨i,k,S,rfl,him,hg,hki,HB,HE,HU,HC⟩:=hrel
  by_cases hlt:i<m
  ·obtain⟨x,hx⟩:∃x,l[i]? =some x:=⟨_,List.getElem?_eq_getElem (by rw[HM.o];exact hlt)⟩
   obtain⟨go,c2,he,_,hgl,_,_⟩:=HO2.o.form (by rw[HM.o];omega)
   injection he with hA hn2 hC
   subst hA
   obtain⟨d0,d1,d2,d3,d4,d5,d6⟩:=(HO2.o.below HB.o).Y4h hx
   have ld:go<wr.heap.size:=World.block_lt_of_cell? _ _ d0
   have hil:(i:Int)<m:=by omega
   have HX:=Q0 (HOP.o x (List.mem_of_getElem? hx))
   clear hx hn2 hC hgl
   by_cases h14:x.kd=14
   ·have e1:((x.kd:Int) !=14)=false:=by simp;omega
    have h14i:(x.kd:Int)=14:=by omega
    go_wp2_with fail
    go_roundg (m - (i+1))
    case measure=>omega
    case rel=>exact⟨i+1,k,S,by go_num,by omega,Nat.le_refl _,by omega,HB,HE,HU,HC⟩
   ·have e1:((x.kd:Int) !=14)=true:=by simp;omega
    have h14i:¬(x.kd:Int)=14:=by omega
    have CD:=Q0 (Y7y wr S eb k (1+401*k) sn sn x HE.o HX.o h14 HC.o.2.2.2.2 HC.o.1 (by omega) (by omega) HC.o.2.1 (by have:=HC.o.2.2.2.1;have:=HP.o;omega))
    clear h14
    go_wp2_with fail
    refine CD.o.mono ?_
    rintro e w4 ⟨⟨r,rfl⟩,S',hd⟩
    have HB4:Sc (Below w2.heap.size w2 w4):=⟨HB.o.trans (hd.leaves.2.1.below HB.o.size HU.o)⟩
    have HE4:=Q0 (HE.o.after hd)
    have HU4:Sc (∀z,(Q1 S').U z->w2.heap.size<=z):=⟨fun z hz=>(hd.leaves.2.2 z hz).elim (HU.o z) (fun hn=>Nat.le_trans HB.o.size hn)⟩
    have HC4:Sc (Cnt S' (k+1) (1+401*(k+1))/\Ok S'.P.pages (6*S'.P.bl) S'.abs/\S'.T.pages=pn/\S'.T.Xf=fn/\S'.T.Qu=sn):=⟨hd.cnt.upv (by omega),hd.ok,by rw[hd.kept.pages];exact HC.o.2.2.1,by rw[hd.kept.Xf];exact HC.o.2.2.2.1,by rw[hd.kept.Qu];exact HC.o.2.2.2.2⟩
    clear hd d0 d1 d2 d3 d4 d5 d6 ld
    go_wp2_with fail
    go_roundg (m - (i+1))
    case measure=>omega
    case rel=>exact⟨i+1,k+1,S',by go_num,by omega,Nat.le_refl _,by omega,HB4,HE4,HU4,HC4⟩
  ·obtain rfl:m=i:=by omega
   obtain⟨_,e1,_,_,_,_,le⟩:=Q7 HE.o.blk
   obtain⟨_,_,_,c5,_,_,_,lt⟩:=HE.o.whole.sto.cells
   obtain⟨_,_,_,m3,_,_,_⟩:=HE.o.whole.sto.X5i
   obtain⟨⟨A,n,cL,hv,hcL,hoL⟩,hap⟩:=HE.o.whole.X2.dl.log
   have d5:wr.cell? ⟨S.P.O.lb,5,none⟩=some (.slice A n cL):=by simp[World.cell?,hcL]
   rw[HE.o.whole.pl]at c5
   obtain⟨c0,_,_,_,_,_,_,_,lc⟩:=Qz (up HB.o HN2.o)
   have HOL:Sc (Own Xq 10 49 w.heap.size wr (.slice A n cL) S.P.L):=⟨hoL.raise (fun z hz=>by
    have:=HU.o z (.inl (.inl (.inr (.inr (by rw[<-hv];exact hz.symm)))))
    have h1:=HB1.o.size
    have h2:=HB2.o.size
    omega)⟩
   have HBF:Sc (Below w.heap.size w wr):=⟨(HB1.o.trans (HB2.o.mono HB1.o.size)).trans (HB.o.mono (Nat.le_trans HB1.o.size HB2.o.size))⟩
   have HLO:Sc (Da pn S.P.L S.T.ck):=⟨by
    have h1:=HE.o.whole.X2.plain
    have h2:=HE.o.whole.pg
    exact⟨HP.o.1.1,HP.o.1.2,by have:=h1.len;have:=h1.blk;omega,h1.Jo,⟨S.abs,by have h3:=HC.o.2.1.Yc;rw[<-h2,HC.o.2.2.1]at h3;exact h3,rfl,rfl⟩⟩⟩
   clear hv hcL hoL hap
   go_upto_region 10 with fail
   go_quiet (fail)
   go_wp2_with fail
   go_ret3
   exact⟨_,_,pn,S.P.L,rfl,HOL.o.below (X0 (Below.refl _ _) _),X0 HBF.o _,HLO.o⟩
theorem Oq{pages:Int}:∀(L:List Q9) (lsn:Int),(∀r∈L,r.kind=2\/r.kind=3\/r.kind=9->r.page<=pages)->Xu pages lsn L=none
 |[],_,_=>rfl
 |r::rs,lsn,h=>by
  have h1:=h r List.mem_cons_self
  rw[Xu,if_neg (fun hh=>by have:=h1 hh.1;omega)]
  exact Oq rs (lsn+1) (fun q hq=>h q (List.mem_cons_of_mem _ hq))
theorem Y0b{L:List Q9}{r:Q9}(h:r∈L):∃l,Qx L 0 l=some r:=by
 obtain⟨i,hi,he⟩:=List.getElem_of_mem h
 refine⟨(i:Int)+1,?_⟩
 unfold Qx
 rw[if_pos (by omega),show((i:Int)+1 - 0 - 1).toNat=i from by omega,List.getElem?_eq_getElem hi,he]
theorem Gy.X7s{pages:Int}{A:Abs}(h:Gy pages A):∀r∈A.L,r.kind=2\/r.kind=3\/r.kind=9->r.page<=pages:=fun r hr=>by
 obtain⟨l,hl⟩:=Y0b hr
 exact(h.wf l r hl).page
theorem Da.ana{p:Nat}{L:List Q9}{ck:Int}(h:Da p L ck):∃t m d d',Zc L 0 p 0=(none,⟨t,m,d,false⟩)/\Zc L 0 p ck=(none,⟨t,m,d',false⟩):=by
 obtain⟨A,hf,rfl,rfl⟩:=h.Yc
 obtain⟨t,m,⟨d,hr⟩,hc⟩:=hf.fin
 have hb:=Oq A.L (0+1) hf.X7s
 have h0:Zc A.L 0 p 0=(none,⟨t,m,d,false⟩):=by
  unfold Zc
  rw[hb]
  show(if(0:Int)=0 then Y7 (0+(A.L.length:Int)) (Xz 0 (0+1) A.L (An.zero false)) else _)=_
  rw[if_pos rfl,show(0:Int)+1=1 from rfl,hr]
  rfl
 rcases hc with hc|⟨r,d',hr2,hk,hr3⟩
 ·exact⟨t,m,d,d,h0,by rw[hc];exact h0⟩
 ·have hrng:=Yo hr2
  refine⟨t,m,d,d',h0,?_⟩
  unfold Zc
  rw[hb]
  show(if A.ck=0 then _ else match Qx A.L 0 A.ck with|some r=>if r.kind=7 then Y7 (0+(A.L.length:Int)) (Xz 0 (A.ck+1) (A.L.drop (A.ck - 0).toNat) (An.zero true)) else(some A.ck,An.zero false)|none=>(some A.ck,An.zero false))=_
  rw[if_neg (by omega),hr2]
  show(if r.kind=7 then _ else _)=_
  rw[if_pos hk,show A.ck - 0=A.ck from by omega,hr3]
  rfl
end Go.Proofs.YtoapihepdallbaaGreatDoor
