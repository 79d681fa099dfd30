import Derived.Test.YtoapihepdallbaaGreatDoorP17
import Derived.Test.YtoapihepdallbaaGreatDoorP40
namespace Go.Proofs.YtoapihepdallbaaGreatDoor
open Go.RowKit
abbrev zOp:Array Value:= #[.int .i64 0,.int .i64 0,.int .i64 0,.int .i64 0,.int .i64 0,.int .i64 0,.slice none 0 0]
structure Y7t(ss:Int)(kd n key N hint V:Nat):Prop where
 k1:1<=kd
 k2:kd<=14
 n:(n:Int)<ss
 key:key<30
 N:N<4
 hint:hint<9
 V:V<500
def Y6t(ss:Int)(w0 w:World)(b:Nat)(a:Option Addr)(len cap:Nat)(zs:List Int)(k:Nat)(e:Ending)(w':World):Prop:=
 ∃kd n key N hint V k':Nat,Y7t ss kd n key N hint V/\e=.returned (.agg #[.int .i64 kd,.int .i64 n,.int .i64 key,.int .i64 N,.int .i64 hint,.int .i64 V,.slice none 0 0])/\k<k'/\k'<=k+7/\Xd w0 w' b a len cap zs k'/\Kp (fun q=>q=b) w w'
theorem Z5{b0 b i:Nat}{w wX:World}{v:Value}(h:Kp (fun q=>q=b0) w wX)(hb:w.heap.size<=b):Kp (fun q=>q=b0) w (wX.setCell ⟨b,i,none⟩ v):=h.trans (Kp.setCell wX ⟨b,i,none⟩ v) (fun q hq=> .inr (by have:q=b:=hq;omega))
theorem Xd.aside{w0 w:World}{b b' i:Nat}{v:Value}{a:Option Addr}{len cap:Nat}{zs:List Int}{k:Nat}(h:Xd w0 w b a len cap zs k)(hb:w0.heap.size<=b')(hne:¬b'=b):Xd w0 (w.setCell ⟨b',i,none⟩ v) b a len cap zs k:=
 ⟨h.row,E6 h.cells hne,h.new,h.below.setCell hb v⟩
theorem X1d{w:World}{b:Nat}{u0 u1 u2 u3 u4 u5 u6 x:Value}{t:TypeId}(h:w.heap[b]? =some (.cells #[u0,u1,u2,u3,u4,u5,u6] t (0,0))):(w.setCell ⟨b,0,none⟩ x).heap[b]? =some (.cells #[x,u1,u2,u3,u4,u5,u6] t (0,0)):=by
 rw[Qn h 0 _];rfl
set_option maxRecDepth 8000 in
set_option maxHeartbeats 8000000 in
theorem X5h(w0 w:World)(b:Nat)(a:Option Addr)(len cap:Nat)(zs:List Int)(k:Nat)(p q f ss:Int)(h:Xd w0 w b a len cap zs k)(hk:k<=100000)(hs1:1<=ss)(hs4:ss<=4):
  Calls Tryz.prog 48 #[.pointer (some ⟨b,0,none⟩),.agg #[.int .i64 p,.int .i64 q,.int .i64 f,.int .i64 ss],.bool false] w (Y6t ss w0 w b a len cap zs k):=by
 obtain⟨w1,hw1⟩:∃w1,(w.alloc (.cells #[.int .i64 p,.int .i64 q,.int .i64 f,.int .i64 ss] 63)).alloc (.cells zOp 71)=w1:=⟨_,rfl⟩
 have H2:=Ym w (.cells #[.int .i64 p,.int .i64 q,.int .i64 f,.int .i64 ss] 63) (.cells zOp 71)
 rw[hw1]at H2
 have HB1:Sc (Below w.heap.size w w1):=⟨hw1▸Q3 (Q3 (Below.refl _ _) _) _⟩
 have HS0:Sc (Xd w0 w1 b a len cap zs k):=⟨h.bel HB1.o⟩
 have HBS:Sc (w1.heap.size=w.heap.size+2):=⟨by rw[<-hw1];simp⟩
 obtain⟨b4,hb4⟩:∃b4,w.heap.size=b4:=⟨_,rfl⟩
 rw[hb4]at H2
 have H2:=Q0 H2
 have HB4:=Q0 hb4
 have HBN:Sc (b<w.heap.size/\w0.heap.size<=w.heap.size):=⟨Q6 h.cells,h.below.size⟩
 have HK0:Sc (Kp (fun q=>q=b) w w1):=⟨Kp.Qi HB1.o _⟩
 have hn4:¬b4=b:=by have:=HBN.o;omega
 have hn6:¬b4+1=b:=by have:=HBN.o;omega
 obtain⟨c0,c1,c2,c3,_,_,_,_,lc⟩:=Qz H2.o.1
 clear h
 go_enter Tryz.func48,Tryz.ntmps48
 go_wp2_with fail
 try rw[hw1]
 try rw[hb4]
 clear hw1 hb4
 refine(Zk w0 _ b a len cap zs (k) ss HS0.o (by omega) (by omega) (by omega)).mono ?_
 rintro e x1 ⟨r1,h10,h11,rfl,hs,hkk⟩
 have HS1:=Q0 hs
 have HK1:=Q0 (HK0.o.trans hkk (fun _ hq=> .inl hq))
 have HX1:=Q0 hkk
 clear hs hkk
 clear c0 c1 c2 c3 lc
 go_wp2_with fail
 refine(Zk w0 _ b a len cap zs (k+1) 30 HS1.o (by omega) (by omega) (by omega)).mono ?_
 rintro e x2 ⟨r2,h20,h21,rfl,hs,hkk⟩
 have HS2:=Q0 hs
 have HK2:=Q0 (HK1.o.trans hkk (fun _ hq=> .inl hq))
 have HX2:=Q0 hkk
 clear hs hkk
 go_wp2_with fail
 refine(Zk w0 _ b a len cap zs (k+1+1) 500 HS2.o (by omega) (by omega) (by omega)).mono ?_
 rintro e x3 ⟨r3,h30,h31,rfl,hs,hkk⟩
 have HS3:=Q0 hs
 have HK3:=Q0 (HK2.o.trans hkk (fun _ hq=> .inl hq))
 have HX3:=Q0 hkk
 clear hs hkk
 go_wp2_with fail
 refine(Zk w0 _ b a len cap zs (k+1+1+1) 9 HS3.o (by omega) (by omega) (by omega)).mono ?_
 rintro e x4 ⟨r4,h40,h41,rfl,hs,hkk⟩
 have HS4:=Q0 hs
 have HK4:=Q0 (HK3.o.trans hkk (fun _ hq=> .inl hq))
 have HX4:=Q0 hkk
 clear hs hkk
 go_wp2_with fail
 refine(Zk w0 _ b a len cap zs (k+1+1+1+1) 4 HS4.o (by omega) (by omega) (by omega)).mono ?_
 rintro e x5 ⟨r5,h50,h51,rfl,hs,hkk⟩
 have HS5:=Q0 hs
 have HK5:=Q0 (HK4.o.trans hkk (fun _ hq=> .inl hq))
 have HX5:=Q0 hkk
 clear hs hkk
 have H6:Sc (x5.heap[b4+1]? =some (.cells zOp 71 (0,0))):=⟨HX5.o.at (HX4.o.at (HX3.o.at (HX2.o.at (HX1.o.at H2.o.2 hn6) hn6) hn6) hn6) hn6⟩
 go_upto_region 2 with fail
 obtain⟨w5,hw5⟩:∃w5,x5.alloc (.cells #[.int .i64 0,.int .i64 r1,.int .i64 r2,.int .i64 r5,.int .i64 r4,.int .i64 r3,.slice none 0 0] 71)=w5:=⟨_,rfl⟩
 obtain⟨b7,hb7⟩:∃b7,x5.heap.size=b7:=⟨_,rfl⟩
 have HB5:Sc (Below x5.heap.size x5 w5):=⟨by rw[<-hw5];exact Q3 (Below.refl _ _) _⟩
 have HN7:Sc (w5.heap[b7]? =some (.cells #[.int .i64 0,.int .i64 r1,.int .i64 r2,.int .i64 r5,.int .i64 r4,.int .i64 r3,.slice none 0 0] 71 (0,0))):=⟨by rw[<-hw5,<-hb7];exact heap_alloc_new _ _⟩
 have HN6:Sc (w5.heap[b4+1]? =some (.cells zOp 71 (0,0))):=⟨up HB5.o H6.o⟩
 have HB7:Sc (b4+1<b7/\w.heap.size<=b7/\w0.heap.size<=b7):=⟨by have:=Q6 H6.o;have:=HB4.o;have:=HBN.o;omega⟩
 have HS5:Sc (Xd w0 w5 b a len cap zs (k+1+1+1+1+1)):=⟨HS5.o.bel HB5.o⟩
 have HK5:Sc (Kp (fun q=>q=b) w w5):=⟨HK5.o.trans (Kp.Qi HB5.o (fun _=>False)) (fun _ hq=>hq.elim)⟩
 rw[hw5]
 try rw[hb7]
 clear hw5 hb7
 have hn7:¬b7=b:=by have:=HB7.o;have:=HBN.o;omega
 go_wp2_with fail
 refine(Zk w0 _ b a len cap zs (k+1+1+1+1+1) 40 HS5.o (by omega) (by omega) (by omega)).mono ?_
 rintro e x6 ⟨r6,h60,h61,rfl,hs,hkk⟩
 have HS6:=Q0 hs
 have HK6:=Q0 (HK5.o.trans hkk (fun _ hq=> .inl hq))
 have HX6:=Q0 hkk
 clear hs hkk
 have HN7':=Q0 (HX6.o.at HN7.o hn7)
 have HN6':=Q0 (HX6.o.at HN6.o hn6)
 obtain⟨n1,rfl⟩:=Int.eq_ofNat_of_zero_le h10
 obtain⟨n2,rfl⟩:=Int.eq_ofNat_of_zero_le h20
 obtain⟨n3,rfl⟩:=Int.eq_ofNat_of_zero_le h30
 obtain⟨n4,rfl⟩:=Int.eq_ofNat_of_zero_le h40
 obtain⟨n5,rfl⟩:=Int.eq_ofNat_of_zero_le h50
 have HR:Sc ((n1:Int)<ss/\n2<30/\n3<500/\n4<9/\n5<4):=⟨by omega⟩
 obtain⟨d0,d1,d2,d3,d4,d5,d6,f0,f1,f2,f3,f4,f5,f6,ld⟩:=Xx HN7'.o
 obtain⟨z0,z1,z2,z3,z4,z5,z6,y0,y1,y2,y3,y4,y5,y6,lz⟩:=Xx HN6'.o
 have hne:¬b4+1=b7:=by have:=HB7.o;omega
 have hne2:¬b7=b4+1:=by have:=HB7.o;omega
 clear h10 h11 h20 h21 h30 h31 h40 h41 h50 h51
 by_cases q6:r6<6
 ·have e6:decide (r6<6)=true:=decide_eq_true q6
  go_wp2_with fail
  refine bodyPost_ret (v:=.agg #[.int .i64 (1:Nat),.int .i64 (n1:Nat),.int .i64 (n2:Nat),.int .i64 (n5:Nat),.int .i64 (n4:Nat),.int .i64 (n3:Nat),.slice none 0 0]) (by simp[results,Tryz.results48,go_sem,z0,z1,z2,z3,z4,z5,z6]) rfl ⟨1,n1,n2,n5,n4,n3,k+1+1+1+1+1+1,⟨by omega,by omega,HR.o.1,HR.o.2.1,HR.o.2.2.2.2,HR.o.2.2.2.1,HR.o.2.2.1⟩,rfl,by omega,by omega,?_,?_⟩
  ·have hs:=HS6.o
   have g1:=HB7.o
   have g2:=HBN.o
   have g3:=HB4.o
   repeat (first|with_reducible exact hs|with_reducible refine Xd.drewW ?_|with_reducible refine Xd.aside ?_ (by omega) (by omega))
  ·have hk:=HK6.o
   have g1:=HB7.o
   have g3:=HB4.o
   repeat (first|with_reducible exact hk|with_reducible refine kp_drew ?_|with_reducible refine Z5 ?_ (by omega))
 have e6:decide (r6<6)=false:=decide_eq_false q6
 by_cases q17:r6<17
 ·have e17:decide (r6<17)=true:=decide_eq_true q17
  go_wp2_with fail
  refine bodyPost_ret (v:=.agg #[.int .i64 (3:Nat),.int .i64 (n1:Nat),.int .i64 (n2:Nat),.int .i64 (n5:Nat),.int .i64 (n4:Nat),.int .i64 (n3:Nat),.slice none 0 0]) (by simp[results,Tryz.results48,go_sem,z0,z1,z2,z3,z4,z5,z6]) rfl ⟨3,n1,n2,n5,n4,n3,k+1+1+1+1+1+1,⟨by omega,by omega,HR.o.1,HR.o.2.1,HR.o.2.2.2.2,HR.o.2.2.2.1,HR.o.2.2.1⟩,rfl,by omega,by omega,?_,?_⟩
  ·have hs:=HS6.o
   have g1:=HB7.o
   have g2:=HBN.o
   have g3:=HB4.o
   repeat (first|with_reducible exact hs|with_reducible refine Xd.drewW ?_|with_reducible refine Xd.aside ?_ (by omega) (by omega))
  ·have hk:=HK6.o
   have g1:=HB7.o
   have g3:=HB4.o
   repeat (first|with_reducible exact hk|with_reducible refine kp_drew ?_|with_reducible refine Z5 ?_ (by omega))
 have e17:decide (r6<17)=false:=decide_eq_false q17
 by_cases q21:r6<21
 ·have e21:decide (r6<21)=true:=decide_eq_true q21
  go_wp2_with fail
  refine bodyPost_ret (v:=.agg #[.int .i64 (4:Nat),.int .i64 (n1:Nat),.int .i64 (n2:Nat),.int .i64 (n5:Nat),.int .i64 (n4:Nat),.int .i64 (n3:Nat),.slice none 0 0]) (by simp[results,Tryz.results48,go_sem,z0,z1,z2,z3,z4,z5,z6]) rfl ⟨4,n1,n2,n5,n4,n3,k+1+1+1+1+1+1,⟨by omega,by omega,HR.o.1,HR.o.2.1,HR.o.2.2.2.2,HR.o.2.2.2.1,HR.o.2.2.1⟩,rfl,by omega,by omega,?_,?_⟩
  ·have hs:=HS6.o
   have g1:=HB7.o
   have g2:=HBN.o
   have g3:=HB4.o
   repeat (first|with_reducible exact hs|with_reducible refine Xd.drewW ?_|with_reducible refine Xd.aside ?_ (by omega) (by omega))
  ·have hk:=HK6.o
   have g1:=HB7.o
   have g3:=HB4.o
   repeat (first|with_reducible exact hk|with_reducible refine kp_drew ?_|with_reducible refine Z5 ?_ (by omega))
 have e21:decide (r6<21)=false:=decide_eq_false q21
 by_cases q24:r6<24
 ·have e24:decide (r6<24)=true:=decide_eq_true q24
  go_wp2_with fail
  refine bodyPost_ret (v:=.agg #[.int .i64 (2:Nat),.int .i64 (n1:Nat),.int .i64 (n2:Nat),.int .i64 (n5:Nat),.int .i64 (n4:Nat),.int .i64 (n3:Nat),.slice none 0 0]) (by simp[results,Tryz.results48,go_sem,z0,z1,z2,z3,z4,z5,z6]) rfl ⟨2,n1,n2,n5,n4,n3,k+1+1+1+1+1+1,⟨by omega,by omega,HR.o.1,HR.o.2.1,HR.o.2.2.2.2,HR.o.2.2.2.1,HR.o.2.2.1⟩,rfl,by omega,by omega,?_,?_⟩
  ·have hs:=HS6.o
   have g1:=HB7.o
   have g2:=HBN.o
   have g3:=HB4.o
   repeat (first|with_reducible exact hs|with_reducible refine Xd.drewW ?_|with_reducible refine Xd.aside ?_ (by omega) (by omega))
  ·have hk:=HK6.o
   have g1:=HB7.o
   have g3:=HB4.o
   repeat (first|with_reducible exact hk|with_reducible refine kp_drew ?_|with_reducible refine Z5 ?_ (by omega))
 have e24:decide (r6<24)=false:=decide_eq_false q24
 by_cases q28:r6<28
 ·have e28:decide (r6<28)=true:=decide_eq_true q28
  go_wp2_with fail
  refine bodyPost_ret (v:=.agg #[.int .i64 (7:Nat),.int .i64 (n1:Nat),.int .i64 (n2:Nat),.int .i64 (n5:Nat),.int .i64 (n4:Nat),.int .i64 (n3:Nat),.slice none 0 0]) (by simp[results,Tryz.results48,go_sem,z0,z1,z2,z3,z4,z5,z6]) rfl ⟨7,n1,n2,n5,n4,n3,k+1+1+1+1+1+1,⟨by omega,by omega,HR.o.1,HR.o.2.1,HR.o.2.2.2.2,HR.o.2.2.2.1,HR.o.2.2.1⟩,rfl,by omega,by omega,?_,?_⟩
  ·have hs:=HS6.o
   have g1:=HB7.o
   have g2:=HBN.o
   have g3:=HB4.o
   repeat (first|with_reducible exact hs|with_reducible refine Xd.drewW ?_|with_reducible refine Xd.aside ?_ (by omega) (by omega))
  ·have hk:=HK6.o
   have g1:=HB7.o
   have g3:=HB4.o
   repeat (first|with_reducible exact hk|with_reducible refine kp_drew ?_|with_reducible refine Z5 ?_ (by omega))
 have e28:decide (r6<28)=false:=decide_eq_false q28
 by_cases q29:r6<29
 ·have e29:decide (r6<29)=true:=decide_eq_true q29
  go_wp2_with fail
  refine bodyPost_ret (v:=.agg #[.int .i64 (8:Nat),.int .i64 (n1:Nat),.int .i64 (n2:Nat),.int .i64 (n5:Nat),.int .i64 (n4:Nat),.int .i64 (n3:Nat),.slice none 0 0]) (by simp[results,Tryz.results48,go_sem,z0,z1,z2,z3,z4,z5,z6]) rfl ⟨8,n1,n2,n5,n4,n3,k+1+1+1+1+1+1,⟨by omega,by omega,HR.o.1,HR.o.2.1,HR.o.2.2.2.2,HR.o.2.2.2.1,HR.o.2.2.1⟩,rfl,by omega,by omega,?_,?_⟩
  ·have hs:=HS6.o
   have g1:=HB7.o
   have g2:=HBN.o
   have g3:=HB4.o
   repeat (first|with_reducible exact hs|with_reducible refine Xd.drewW ?_|with_reducible refine Xd.aside ?_ (by omega) (by omega))
  ·have hk:=HK6.o
   have g1:=HB7.o
   have g3:=HB4.o
   repeat (first|with_reducible exact hk|with_reducible refine kp_drew ?_|with_reducible refine Z5 ?_ (by omega))
 have e29:decide (r6<29)=false:=decide_eq_false q29
 by_cases q31:r6<31
 ·have e31:decide (r6<31)=true:=decide_eq_true q31
  go_wp2_with fail
  refine bodyPost_ret (v:=.agg #[.int .i64 (5:Nat),.int .i64 (n1:Nat),.int .i64 (n2:Nat),.int .i64 (n5:Nat),.int .i64 (n4:Nat),.int .i64 (n3:Nat),.slice none 0 0]) (by simp[results,Tryz.results48,go_sem,z0,z1,z2,z3,z4,z5,z6]) rfl ⟨5,n1,n2,n5,n4,n3,k+1+1+1+1+1+1,⟨by omega,by omega,HR.o.1,HR.o.2.1,HR.o.2.2.2.2,HR.o.2.2.2.1,HR.o.2.2.1⟩,rfl,by omega,by omega,?_,?_⟩
  ·have hs:=HS6.o
   have g1:=HB7.o
   have g2:=HBN.o
   have g3:=HB4.o
   repeat (first|with_reducible exact hs|with_reducible refine Xd.drewW ?_|with_reducible refine Xd.aside ?_ (by omega) (by omega))
  ·have hk:=HK6.o
   have g1:=HB7.o
   have g3:=HB4.o
   repeat (first|with_reducible exact hk|with_reducible refine kp_drew ?_|with_reducible refine Z5 ?_ (by omega))
 have e31:decide (r6<31)=false:=decide_eq_false q31
 by_cases q32:r6<32
 ·have e32:decide (r6<32)=true:=decide_eq_true q32
  go_wp2_with fail
  refine bodyPost_ret (v:=.agg #[.int .i64 (6:Nat),.int .i64 (n1:Nat),.int .i64 (n2:Nat),.int .i64 (n5:Nat),.int .i64 (n4:Nat),.int .i64 (n3:Nat),.slice none 0 0]) (by simp[results,Tryz.results48,go_sem,z0,z1,z2,z3,z4,z5,z6]) rfl ⟨6,n1,n2,n5,n4,n3,k+1+1+1+1+1+1,⟨by omega,by omega,HR.o.1,HR.o.2.1,HR.o.2.2.2.2,HR.o.2.2.2.1,HR.o.2.2.1⟩,rfl,by omega,by omega,?_,?_⟩
  ·have hs:=HS6.o
   have g1:=HB7.o
   have g2:=HBN.o
   have g3:=HB4.o
   repeat (first|with_reducible exact hs|with_reducible refine Xd.drewW ?_|with_reducible refine Xd.aside ?_ (by omega) (by omega))
  ·have hk:=HK6.o
   have g1:=HB7.o
   have g3:=HB4.o
   repeat (first|with_reducible exact hk|with_reducible refine kp_drew ?_|with_reducible refine Z5 ?_ (by omega))
 have e32:decide (r6<32)=false:=decide_eq_false q32
 by_cases q34:r6<34
 ·have e34:decide (r6<34)=true:=decide_eq_true q34
  go_wp2_with fail
  refine bodyPost_ret (v:=.agg #[.int .i64 (9:Nat),.int .i64 (n1:Nat),.int .i64 (n2:Nat),.int .i64 (n5:Nat),.int .i64 (n4:Nat),.int .i64 (n3:Nat),.slice none 0 0]) (by simp[results,Tryz.results48,go_sem,z0,z1,z2,z3,z4,z5,z6]) rfl ⟨9,n1,n2,n5,n4,n3,k+1+1+1+1+1+1,⟨by omega,by omega,HR.o.1,HR.o.2.1,HR.o.2.2.2.2,HR.o.2.2.2.1,HR.o.2.2.1⟩,rfl,by omega,by omega,?_,?_⟩
  ·have hs:=HS6.o
   have g1:=HB7.o
   have g2:=HBN.o
   have g3:=HB4.o
   repeat (first|with_reducible exact hs|with_reducible refine Xd.drewW ?_|with_reducible refine Xd.aside ?_ (by omega) (by omega))
  ·have hk:=HK6.o
   have g1:=HB7.o
   have g3:=HB4.o
   repeat (first|with_reducible exact hk|with_reducible refine kp_drew ?_|with_reducible refine Z5 ?_ (by omega))
 have e34:decide (r6<34)=false:=decide_eq_false q34
 by_cases q35:r6<35
 ·have e35:decide (r6<35)=true:=decide_eq_true q35
  go_wp2_with fail
  refine(Zk w0 _ b a len cap zs (k+1+1+1+1+1+1) 4 HS6.o (by omega) (by omega) (by omega)).mono ?_
  rintro e x7 ⟨r7,h70,h71,rfl,hs,hkk⟩
  have HS7:=Q0 hs
  have HK7:=Q0 (HK6.o.trans hkk (fun _ hq=> .inl hq))
  have hp7:=hkk.at HN7'.o hn7
  have hp6:=hkk.at HN6'.o hn6
  obtain⟨kd,hkd⟩:∃kd:Nat,10+r7=(kd:Int):=⟨(10+r7).toNat,by omega⟩
  have hkd1:1<=kd:=by omega
  have hkd2:kd<=14:=by omega
  clear hs hkk d0 d1 d2 d3 d4 d5 d6 f0 f1 f2 f3 f4 f5 f6 ld z0 z1 z2 z3 z4 z5 z6 y0 y1 y2 y3 y4 y5 y6 lz
  obtain⟨d0,d1,d2,d3,d4,d5,d6,f0,f1,f2,f3,f4,f5,f6,ld⟩:=Xx hp7
  obtain⟨z0,z1,z2,z3,z4,z5,z6,y0,y1,y2,y3,y4,y5,y6,lz⟩:=Xx hp6
  have hwi:IntKind.i64.wrap (10+r7)=(kd:Int):=by rw[IntWalk.i64_in _ ⟨by omega,by omega⟩];exact hkd
  clear hp7 hp6 hkd h70 h71
  go_wp2_with fail
  refine bodyPost_ret (v:=.agg #[.int .i64 (kd:Nat),.int .i64 (n1:Nat),.int .i64 (n2:Nat),.int .i64 (n5:Nat),.int .i64 (n4:Nat),.int .i64 (n3:Nat),.slice none 0 0]) (by simp[results,Tryz.results48,go_sem,z0,z1,z2,z3,z4,z5,z6]) rfl ⟨kd,n1,n2,n5,n4,n3,k+1+1+1+1+1+1+1,⟨by omega,by omega,HR.o.1,HR.o.2.1,HR.o.2.2.2.2,HR.o.2.2.2.1,HR.o.2.2.1⟩,rfl,by omega,by omega,?_,?_⟩
  ·have hs:=HS7.o
   have g1:=HB7.o
   have g2:=HBN.o
   have g3:=HB4.o
   repeat (first|with_reducible exact hs|with_reducible refine Xd.drewW ?_|with_reducible refine Xd.aside ?_ (by omega) (by omega))
  ·have hk:=HK7.o
   have g1:=HB7.o
   have g3:=HB4.o
   repeat (first|with_reducible exact hk|with_reducible refine kp_drew ?_|with_reducible refine Z5 ?_ (by omega))
 have e35:decide (r6<35)=false:=decide_eq_false q35
 by_cases q36:r6<36
 ·have e36:decide (r6<36)=true:=decide_eq_true q36
  go_wp2_with fail
  refine(Zk w0 _ b a len cap zs (k+1+1+1+1+1+1) 2 (Xd.aside HS6.o (by have:=HB7.o;omega) hn7) (by omega) (by omega) (by omega)).mono ?_
  rintro e x7 ⟨r7,h70,h71,rfl,hs,hkk⟩
  have HS7:=Q0 hs
  have HK7:=Q0 ((Z5 HK6.o (by have:=HB7.o;omega)).trans hkk (fun _ hq=> .inl hq))
  have hp7:=hkk.at (X1d HN7'.o) hn7
  have hp6:=hkk.at (E6 HN6'.o hne2) hn6
  clear hs hkk d0 d1 d2 d3 d4 d5 d6 f0 f1 f2 f3 f4 f5 f6 ld z0 z1 z2 z3 z4 z5 z6 y0 y1 y2 y3 y4 y5 y6 lz
  obtain⟨d0,d1,d2,d3,d4,d5,d6,f0,f1,f2,f3,f4,f5,f6,ld⟩:=Xx hp7
  obtain⟨z0,z1,z2,z3,z4,z5,z6,y0,y1,y2,y3,y4,y5,y6,lz⟩:=Xx hp6
  clear hp7 hp6
  by_cases g7:r7=0
  ·have e7:(r7==0)=true:=by simp[g7]
   go_wp2_with fail
   refine bodyPost_ret (v:=.agg #[.int .i64 (11:Nat),.int .i64 (n1:Nat),.int .i64 (n2:Nat),.int .i64 (n5:Nat),.int .i64 (n4:Nat),.int .i64 (n3:Nat),.slice none 0 0]) (by simp[results,Tryz.results48,go_sem,z0,z1,z2,z3,z4,z5,z6]) rfl ⟨11,n1,n2,n5,n4,n3,k+1+1+1+1+1+1+1,⟨by omega,by omega,HR.o.1,HR.o.2.1,HR.o.2.2.2.2,HR.o.2.2.2.1,HR.o.2.2.1⟩,rfl,by omega,by omega,?_,?_⟩
   ·have hs:=HS7.o
    have g1:=HB7.o
    have g2:=HBN.o
    have g3:=HB4.o
    repeat (first|with_reducible exact hs|with_reducible refine Xd.drewW ?_|with_reducible refine Xd.aside ?_ (by omega) (by omega))
   ·have hk:=HK7.o
    have g1:=HB7.o
    have g3:=HB4.o
    repeat (first|with_reducible exact hk|with_reducible refine kp_drew ?_|with_reducible refine Z5 ?_ (by omega))
  ·have e7:(r7==0)=false:=by simp[g7]
   go_wp2_with fail
   refine bodyPost_ret (v:=.agg #[.int .i64 (14:Nat),.int .i64 (n1:Nat),.int .i64 (n2:Nat),.int .i64 (n5:Nat),.int .i64 (n4:Nat),.int .i64 (n3:Nat),.slice none 0 0]) (by simp[results,Tryz.results48,go_sem,z0,z1,z2,z3,z4,z5,z6]) rfl ⟨14,n1,n2,n5,n4,n3,k+1+1+1+1+1+1+1,⟨by omega,by omega,HR.o.1,HR.o.2.1,HR.o.2.2.2.2,HR.o.2.2.2.1,HR.o.2.2.1⟩,rfl,by omega,by omega,?_,?_⟩
   ·have hs:=HS7.o
    have g1:=HB7.o
    have g2:=HBN.o
    have g3:=HB4.o
    repeat (first|with_reducible exact hs|with_reducible refine Xd.drewW ?_|with_reducible refine Xd.aside ?_ (by omega) (by omega))
   ·have hk:=HK7.o
    have g1:=HB7.o
    have g3:=HB4.o
    repeat (first|with_reducible exact hk|with_reducible refine kp_drew ?_|with_reducible refine Z5 ?_ (by omega))
 have e36:decide (r6<36)=false:=decide_eq_false q36
 by_cases q38:r6<38
 ·have e38:decide (r6<38)=true:=decide_eq_true q38
  go_wp2_with fail
  refine bodyPost_ret (v:=.agg #[.int .i64 (3:Nat),.int .i64 (n1:Nat),.int .i64 (n2:Nat),.int .i64 (n5:Nat),.int .i64 (n4:Nat),.int .i64 (n3:Nat),.slice none 0 0]) (by simp[results,Tryz.results48,go_sem,z0,z1,z2,z3,z4,z5,z6]) rfl ⟨3,n1,n2,n5,n4,n3,k+1+1+1+1+1+1,⟨by omega,by omega,HR.o.1,HR.o.2.1,HR.o.2.2.2.2,HR.o.2.2.2.1,HR.o.2.2.1⟩,rfl,by omega,by omega,?_,?_⟩
  ·have hs:=HS6.o
   have g1:=HB7.o
   have g2:=HBN.o
   have g3:=HB4.o
   repeat (first|with_reducible exact hs|with_reducible refine Xd.drewW ?_|with_reducible refine Xd.aside ?_ (by omega) (by omega))
  ·have hk:=HK6.o
   have g1:=HB7.o
   have g3:=HB4.o
   repeat (first|with_reducible exact hk|with_reducible refine kp_drew ?_|with_reducible refine Z5 ?_ (by omega))
 ·have e38:decide (r6<38)=false:=decide_eq_false q38
  go_wp2_with fail
  refine bodyPost_ret (v:=.agg #[.int .i64 (3:Nat),.int .i64 (n1:Nat),.int .i64 (n2:Nat),.int .i64 (n5:Nat),.int .i64 (n4:Nat),.int .i64 (n3:Nat),.slice none 0 0]) (by simp[results,Tryz.results48,go_sem,z0,z1,z2,z3,z4,z5,z6]) rfl ⟨3,n1,n2,n5,n4,n3,k+1+1+1+1+1+1,⟨by omega,by omega,HR.o.1,HR.o.2.1,HR.o.2.2.2.2,HR.o.2.2.2.1,HR.o.2.2.1⟩,rfl,by omega,by omega,?_,?_⟩
  ·have hs:=HS6.o
   have g1:=HB7.o
   have g2:=HBN.o
   have g3:=HB4.o
   repeat (first|with_reducible exact hs|with_reducible refine Xd.drewW ?_|with_reducible refine Xd.aside ?_ (by omega) (by omega))
  ·have hk:=HK6.o
   have g1:=HB7.o
   have g3:=HB4.o
   repeat (first|with_reducible exact hk|with_reducible refine kp_drew ?_|with_reducible refine Z5 ?_ (by omega))
theorem Xd.kpS{w0 w w':World}{b:Nat}{a:Option Addr}{len cap:Nat}{zs:List Int}{k:Nat}{S:Nat->Prop}(h:Xd w0 w b a len cap zs k)(hk:Kp S w w')(hne:¬S b)(h0:∀q,S q->w0.heap.size<=q):Xd w0 w' b a len cap zs k:=
 ⟨h.row,hk.at h.cells hne,h.new,h.below.trans (hk.below h.below.size h0)⟩
theorem X7n{b0 i:Nat}{w w':World}{v:Value}(h:Kp (fun q=>q=b0) w w'):Kp (fun q=>q=b0) w (w'.setCell ⟨b0,i,none⟩ v):=h.put (b:=b0) rfl _
structure OpD where
 kd:Nat
 n:Nat
 key:Nat
 N:Nat
 hint:Nat
 V:Nat
def Q2b(x:OpD):List Value:=[.int .i64 x.kd,.int .i64 x.n,.int .i64 x.key,.int .i64 x.N,.int .i64 x.hint,.int .i64 x.V,.slice none 0 0]
theorem Es:Kind Q2b 7:=⟨fun _=>rfl,fun _ u hu=>by simp[Q2b]at hu;rcases hu with rfl|rfl|rfl|rfl|rfl|rfl|rfl<;>rfl,by omega⟩
theorem Y7f:(Tryz.prog.info? 71).map (fun i=>(i.zero,i.size,i.bytes))=some (some (.agg #[.int .i64 0,.int .i64 0,.int .i64 0,.int .i64 0,.int .i64 0,.int .i64 0,.slice none 0 0]),7,72):=by kernel_rfl
theorem Own.Y4h{w:World}{e:TypeId}{base g n cap:Nat}{l:List OpD}(h:Own Q2b 7 e base w (.slice (some ⟨g,0,none⟩) n cap) l){k:Nat}{x:OpD}(hx:l[k]? =some x):
  w.cell? ⟨g,k*7,none⟩=some (.int .i64 x.kd)/\w.cell? ⟨g,k*7+1,none⟩=some (.int .i64 x.n)/\w.cell? ⟨g,k*7+2,none⟩=some (.int .i64 x.key)/\w.cell? ⟨g,k*7+3,none⟩=some (.int .i64 x.N)/\w.cell? ⟨g,k*7+4,none⟩=some (.int .i64 x.hint)/\w.cell? ⟨g,k*7+5,none⟩=some (.int .i64 x.V)/\w.cell? ⟨g,k*7+6,none⟩=some (.slice none 0 0):=
 ⟨h.cell Es hx 0 _ rfl,h.cell Es hx 1 _ rfl,h.cell Es hx 2 _ rfl,h.cell Es hx 3 _ rfl,h.cell Es hx 4 _ rfl,h.cell Es hx 5 _ rfl,h.cell Es hx 6 _ rfl⟩
def X0t(ss:Int)(x:OpD):Prop:=Y7t ss x.kd x.n x.key x.N x.hint x.V
def Y4c(w:World)(e:Ending)(w':World):Prop:=
 ∃p q f s v,∃l:List OpD,Y1g p q f s/\e=.returned (.tuple #[.agg #[.int .i64 p,.int .i64 q,.int .i64 f,.int .i64 s],v])/\l.length<=60/\(∀x∈l,X0t s x)/\Own Q2b 7 71 w.heap.size w' v l/\Below w.heap.size w w'
set_option maxRecDepth 4000 in
set_option maxHeartbeats 8000000 in
theorem X6h(w:World)(a:Option Addr)(len cap:Nat)(zs:List Int)(h:Uf .i64 w a len cap zs)(hlen:len<=1000):
  Calls Tryz.prog 18 #[.slice a len cap,.int .i64 60,.bool false] w (Y4c w):=by
 obtain⟨it,hi,hz0,hz1,hz2⟩:=info_parts Y7f
 obtain⟨w1,hw1⟩:∃w1,(w.alloc (.cells cz 63)).alloc (.cells #[.slice a len cap,.int .i64 0] 53)=w1:=⟨_,rfl⟩
 have H2:=Ym w (.cells cz 63) (.cells #[.slice a len cap,.int .i64 0] 53)
 rw[hw1]at H2
 have HB1:Sc (Below w.heap.size w w1):=⟨hw1▸Q3 (Q3 (Below.refl _ _) _) _⟩
 have HBS:Sc (w1.heap.size=w.heap.size+2):=⟨by rw[<-hw1];simp⟩
 obtain⟨b6,hb6⟩:∃b6,w.heap.size=b6:=⟨_,rfl⟩
 rw[hb6]at H2
 have H2:=Q0 H2
 have HB6:=Q0 hb6
 have HS0:Sc (Xd w w1 (b6+1) a len cap zs 0):=⟨h,H2.o.2,by have:=HB6.o;omega,HB1.o⟩
 have CC:=Q0 (Q4o w w1 (b6+1) a len cap zs 0 HS0.o (by omega))
 clear h
 go_enter Tryz.func18,Tryz.ntmps18
 go_wp2_with fail
 try rw[hw1]
 try rw[hb6]
 clear hw1 hb6
 refine CC.o.mono ?_
 rintro e w2 ⟨p,q,f,s,hcfg,rfl,hs,hk⟩
 have HCFG:=Q0 hcfg
 have HS2:=Q0 hs
 have HN2:=Q0 (hk.at H2.o.1 (by omega))
 have hsz:=hk.size
 clear hs hk hcfg
 go_upto_region 3 with fail
 obtain⟨w3,hw3⟩:∃w3,w2.alloc (.cells #[.int .i64 p,.int .i64 q,.int .i64 f,.int .i64 s] 63)=w3:=⟨_,rfl⟩
 obtain⟨b9,hb9⟩:∃b9,w2.heap.size=b9:=⟨_,rfl⟩
 have HB3:Sc (Below w2.heap.size w2 w3):=⟨by rw[<-hw3];exact Q3 (Below.refl _ _) _⟩
 have HN9:Sc (w3.heap[b9]? =some (.cells #[.int .i64 p,.int .i64 q,.int .i64 f,.int .i64 s] 63 (0,0))):=⟨by rw[<-hw3,<-hb9];exact heap_alloc_new _ _⟩
 have HN3:=Q0 (up HB3.o HN2.o)
 have HS3:=Q0 (HS2.o.bel HB3.o)
 have HLT:Sc (b6+1<b9/\w.heap.size=b6/\w.heap.size<=w3.heap.size):=⟨by have:=HBS.o;have:=HB6.o;have:=HB3.o.size;omega⟩
 rw[hw3]
 try rw[hb9]
 clear hw3 hb9 hsz
 have HB9:Sc (b9<w3.heap.size/\b6+1<w3.heap.size):=⟨Q6 HN9.o,Q6 HS3.o.cells⟩
 go_wp2_with fail
 go_loopg [10,11] 60 (fun kx s10 s11 wr=>∃(i k':Nat) (l:List OpD),s11=.int .i64 i/\i<=60/\60 - i<=kx/\k'<=4+7*i/\l.length=i/\Sc (∀x∈l,X0t s x)/\Sc (Xd w wr (b6+1) a len cap zs k')/\Sc (Own Q2b 7 71 w3.heap.size wr s10 l)/\Sc (wr.heap[b9]? =some (.cells #[.int .i64 p,.int .i64 q,.int .i64 f,.int .i64 s] 63 (0,0)))/\Sc (wr.heap[b6]? =some (.cells cz 63 (0,0)))/\w3.heap.size<=wr.heap.size)
 case atStart=>exact⟨0,0+4,[],rfl,by omega,by omega,by omega,rfl,⟨fun x hx=>by cases hx⟩,HS3,⟨Own.nil⟩,HN9,HN3,Nat.le_refl _⟩
 case round=>
  obtain⟨i,k',l,rfl,hi60,hik,hkk,hl,HOP,HSQ,HO,HC9,HC6,hsz⟩:=hrel
  obtain⟨s0,s1⟩:=Qf HSQ.o.cells
  obtain⟨g0,g1,g2,g3,_,_,_,_,lg⟩:=Qz HC9.o
  have ls:=Q6 HSQ.o.cells
  have hcase:((i:Int)<60/\(k':Int)<len)\/((i:Int)<60/\¬(k':Int)<len)\/¬(i:Int)<60:=by omega
  rcases hcase with ⟨h1,h2⟩|hout
  ·have e1:decide ((i:Int)<60)=true:=decide_eq_true h1
   have e2:decide ((k':Int)<(len:Int))=true:=decide_eq_true h2
   have e3:decide (k'<len)=true:=decide_eq_true (by omega)
   have CO:=Q0 (X5h w wr (b6+1) a len cap zs k' p q f s HSQ.o (by omega) HCFG.o.s1 HCFG.o.s4)
   go_wp2_with fail
   refine CO.o.mono ?_
   rintro e w4 ⟨kd,n,key,N,hint,V,k2,hop,rfl,hk1,hk2,hs4,hkp⟩
   have HOPX:Sc (X0t s ⟨kd,n,key,N,hint,V⟩):=⟨hop⟩
   have HO4:=Q0 (HO.o.kp hkp (fun q hq he=>by have h3:=(HO.o.lt q hq).1;have h4:q=b6+1:=he;have:=HB9.o;omega))
   have HS4:=Q0 hs4
   have HC94:=Q0 (hkp.at HC9.o (by have:=HLT.o.1;omega))
   have HC64:=Q0 (hkp.at HC6.o (by omega))
   have hsz4:w3.heap.size<=w4.heap.size:=Nat.le_trans hsz hkp.size
   clear hs4 hkp hop s0 s1 g0 g1 g2 g3 lg ls
   go_wp2_with (at_builtin;go_loud (refine wpList_append_own_at _ rfl (.tmp 31) (.tmp 36) 64 rfl w3.heap.size 71 it (.agg #[.int .i64 0,.int .i64 0,.int .i64 0,.int .i64 0,.int .i64 0,.int .i64 0,.slice none 0 0]) 7 72 Tryz.underlying64 hi hz0 hz1 hz2 rfl (by decide) _ l.length (flat Q2b l) rfl (HO4.o.alloc _) _ 1 1 (Q2b ⟨kd,n,key,N,hint,V⟩) rfl rfl ?c1 ?c2 ?c3 ?c4 ?c5 ?_))
   case c1=>exact World.news_of_block (heap_alloc_new _ _)
   case c2=>exact Es.one _
   case c3=>unfold maxLen;omega
   case c4=>omega
   case c5=>simp;omega
   intro v1 w5 q1 q2 q3 q4
   have H1:Sc (Own Q2b 7 71 w3.heap.size w5 v1 (l++[⟨kd,n,key,N,hint,V⟩])):=⟨by
    unfold Own
    rw[Qc,Qm,List.length_append,hl]
    exact q1⟩
   have HKG:=Q0 (Kp.Zl q2)
   have HS5:Sc (Xd w w5 (b6+1) a len cap zs k2):=⟨(HS4.o.bel (Q3 (Below.refl _ _) _)).kpS HKG.o (fun he=>by have:=(HO4.o.lt _ he.symm).1;have:=HB9.o;omega) (fun q he=>by have:=(HO4.o.lt _ he.symm).1;have:=HLT.o.2.2;omega)⟩
   have HC95:=Q0 (HKG.o.at (upa HC94.o _) (fun he=>by have:=(HO4.o.lt _ he.symm).1;have:=HB9.o;omega))
   have HC65:=Q0 (HKG.o.at (upa HC64.o _) (fun he=>by have:=(HO4.o.lt _ he.symm).1;have:=HB9.o;omega))
   have hsz5:w3.heap.size<=w5.heap.size:=by have:=HKG.o.size;simp at this;omega
   have HOP5:Sc (∀x∈l++[⟨kd,n,key,N,hint,V⟩],X0t s x):=⟨fun x hx=>by
    rcases List.mem_append.1 hx with hx|hx
    ·exact HOP.o x hx
    ·rw[List.mem_singleton.1 hx];exact HOPX.o⟩
   clear q1 q2 q3 q4
   go_wp2_with fail
   go_roundg (60 - (i+1))
   case measure=>omega
   case rel=>exact⟨i+1,k2,l++[⟨kd,n,key,N,hint,V⟩],by go_num,by omega,Nat.le_refl _,by omega,by rw[List.length_append,hl];rfl,HOP5,HS5,H1,HC95,HC65,hsz5⟩
  ·have HOUT:Sc (∃v,v=v):=⟨0,rfl⟩
   obtain⟨z0,z1,z2,z3,y0,y1,y2,y3,lz⟩:=Qz HC6.o
   obtain⟨Ao,no,co,rfl⟩:=HO.o.slice3
   have hfin:Sc (Below w.heap.size w wr):=⟨HSQ.o.below⟩
   have hlen2:l.length<=60:=by omega
   rcases hout with ⟨h1,h2⟩|h1
   ·have e1:decide ((i:Int)<60)=true:=decide_eq_true h1
    have e2:decide ((k':Int)<(len:Int))=false:=decide_eq_false h2
    have e3:decide (k'<len)=false:=decide_eq_false (by omega)
    go_wp2_with fail
    refine bodyPost_ret (v:=.tuple #[.agg #[.int .i64 p,.int .i64 q,.int .i64 f,.int .i64 s],.slice Ao no co]) (by simp[results,Tryz.results18,go_sem,z0,z1,z2,z3]) rfl ⟨p,q,f,s,_,l,HCFG.o,rfl,hlen2,HOP.o,?_,?_⟩
    ·refine((HO.o.mono HLT.o.2.2).kp (S:=fun q=>q=b6) ?_ (fun q hq he=>by have h3:=(HO.o.lt q hq).1;have h4:q=b6:=he;have:=HB9.o;omega))
     repeat (first|with_reducible exact Kp.Vd|with_reducible refine kp_drew ?_|with_reducible refine X7n ?_)
    ·have hl:=hfin.o
     have g1:=HLT.o.2.1
     repeat (first|with_reducible exact hl|with_reducible refine Below.drew ?_|with_reducible refine Dc ?_ (by omega))
   ·have e1:decide ((i:Int)<60)=false:=decide_eq_false h1
    go_wp2_with fail
    refine bodyPost_ret (v:=.tuple #[.agg #[.int .i64 p,.int .i64 q,.int .i64 f,.int .i64 s],.slice Ao no co]) (by simp[results,Tryz.results18,go_sem,z0,z1,z2,z3]) rfl ⟨p,q,f,s,_,l,HCFG.o,rfl,hlen2,HOP.o,?_,?_⟩
    ·refine((HO.o.mono HLT.o.2.2).kp (S:=fun q=>q=b6) ?_ (fun q hq he=>by have h3:=(HO.o.lt q hq).1;have h4:q=b6:=he;have:=HB9.o;omega))
     repeat (first|with_reducible exact Kp.Vd|with_reducible refine kp_drew ?_|with_reducible refine X7n ?_)
    ·have hl:=hfin.o
     have g1:=HLT.o.2.1
     repeat (first|with_reducible exact hl|with_reducible refine Below.drew ?_|with_reducible refine Dc ?_ (by omega))
section
set_option maxHeartbeats 8000000
abbrev X2c(p q f ss db lb pb spb:Nat):Array Value:= #[.int .i64 p,.int .i64 q,.int .i64 f,.int .i64 ss,.pointer (some ⟨db,0,none⟩),.pointer (some ⟨lb,0,none⟩),.pointer (some ⟨pb,0,none⟩),.slice none 0 0,.slice none 0 0,.slice none 0 0,.int .i64 0,.pointer (some ⟨spb,0,none⟩),.int .i64 0,.int .i64 0,.int .i64 0,.int .i64 0,.int .i64 0,.int .i64 0,.int .i64 0,.int .i64 0,.slice none 0 0,.slice none 0 0,.slice none 0 0,.slice none 0 0,.slice none 0 0,.slice none 0 0,.slice none 0 0,.slice none 0 0,.int .i64 1,.int .i64 0,.int .i64 1,.int .i64 0,.int .i64 p,.int .i64 q,.int .i64 f]
def Q1h(p q f ss sb db lb pb spb:Nat):Xm:=⟨sb,pb,db,lb,spb,p,q,f,ss,none,none,none,[],[],[],0,List.replicate 8 0,List.replicate 8 ⟨none,0,0,[]⟩,0⟩
theorem X9m{w:World}{p q f ss sb db lb pb spb:Nat}(h:w.heap[sb]? =some (.cells (X2c p q f ss db lb pb spb) 93 (0,0))):Vr (Q1h p q f ss sb db lb pb spb) w where
 val:=⟨.slice none 0 0,.slice none 0 0,.slice none 0 0,rfl,rfl,rfl,h,Own.nil,Own.nil,Own.nil⟩
 Je:=List.Pairwise.nil
 sv:=fun x hx=>by rw[List.eq_of_mem_replicate hx];exact Own.nil
 nm:=rfl
 ns:=rfl
 kb:=by intro he;cases he
 wb:=by intro he;cases he
 tb:=by intro he;cases he
 kw:=by intro q he;cases he
 kt:=by intro q he;cases he
 wtt:=by intro q he;cases he
 far:=fun x hx q hq=>by rw[List.eq_of_mem_replicate hx]at hq;cases hq
theorem X3a(w:World)(p q f ss nb db lb pb spb:Nat)(hN:w.heap[nb]? =some (.cells (X2c p q f ss db lb pb spb) 93 (0,0))):
  Calls Tryz.prog 81 #[.pointer (some ⟨nb,9,none⟩),.int .i64 0] w fun e w'=>e=.returned (.tuple #[])/\w'.heap[nb]? =some (.cells (X2c p q f ss db lb pb spb) 93 (0,0))/\Kp (fun z=>z=nb) w w':=by
 have c10:w.cell? ⟨nb,10,none⟩=some (.int .i64 0):=by simp[World.cell?,hN]
 have f10:=Q2 hN 10
 have lt:=Q6 hN
 have HNN:=Q0 hN
 have hs:Sc ((w.setCell ⟨nb,10,none⟩ (.int .i64 0)).heap[nb]? =some (.cells (X2c p q f ss db lb pb spb) 93 (0,0))):=⟨by rw[Qn hN 10 _];rfl⟩
 clear hN
 go_enter Tryz.func81,Tryz.ntmps81
 go_wp2
 go_end0
 exact⟨rfl,hs.o,Kp.setCell w ⟨nb,10,none⟩ _⟩
set_option maxRecDepth 8000 in
theorem Q9q(w:World)(p q f ss db lb pb:Nat)(dn:Int)(h:Jb ⟨db,(p:Int)+1,q,dn⟩ w lb none [] 0)(hq:q<=1000):
  Calls Tryz.prog 51 #[.agg #[.int .i64 p,.int .i64 q,.int .i64 f,.int .i64 ss],.pointer (some ⟨db,0,none⟩),.pointer (some ⟨lb,0,none⟩),.pointer (some ⟨pb,0,none⟩),.int .i64 0,.agg #[.int .i64 1,.int .i64 0,.int .i64 1,.int .i64 0,.int .i64 p,.int .i64 q,.int .i64 f]] w fun e w'=>∃nb spb,e=.returned (.pointer (some ⟨nb,0,none⟩))/\Yw w' spb (6*q) 0/\Vr (Q1h p q f ss nb db lb pb spb) w'/\w.heap.size<=spb/\w.heap.size<=nb/\nb≠spb/\Below w.heap.size w w':=by
 obtain⟨w1,hw1⟩:∃w1,(w.alloc (.cells #[.int .i64 p,.int .i64 q,.int .i64 f,.int .i64 ss] 63)).alloc (.cells #[.int .i64 1,.int .i64 0,.int .i64 1,.int .i64 0,.int .i64 p,.int .i64 q,.int .i64 f] 91)=w1:=⟨_,rfl⟩
 have H2:=Ym w (.cells #[.int .i64 p,.int .i64 q,.int .i64 f,.int .i64 ss] 63) (.cells #[.int .i64 1,.int .i64 0,.int .i64 1,.int .i64 0,.int .i64 p,.int .i64 q,.int .i64 f] 91)
 rw[hw1]at H2
 have HB1:Sc (Below w.heap.size w w1):=⟨hw1▸Q3 (Q3 (Below.refl _ _) _) _⟩
 obtain⟨b6,hb6⟩:∃b6,w.heap.size=b6:=⟨_,rfl⟩
 rw[hb6]at H2
 have HB6:=Q0 hb6
 have H2:=Q0 H2
 have HLG:=Q0 (h.bel HB1.o)
 have SK:Sc (∀W,Below w1.heap.size w1 W->W.cell? ⟨b6,0,none⟩=some (.int .i64 p)/\W.cell? ⟨b6,1,none⟩=some (.int .i64 q)/\W.cell? ⟨b6,2,none⟩=some (.int .i64 f)/\W.cell? ⟨b6,3,none⟩=some (.int .i64 ss)/\W.cell? ⟨b6+1,0,none⟩=some (.int .i64 1)/\W.cell? ⟨b6+1,1,none⟩=some (.int .i64 0)/\W.cell? ⟨b6+1,2,none⟩=some (.int .i64 1)/\W.cell? ⟨b6+1,3,none⟩=some (.int .i64 0)/\W.cell? ⟨b6+1,4,none⟩=some (.int .i64 p)/\W.cell? ⟨b6+1,5,none⟩=some (.int .i64 q)/\W.cell? ⟨b6+1,6,none⟩=some (.int .i64 f)):=⟨fun W hW=>by
  obtain⟨c0,c1,c2,c3,_⟩:=Qz (up hW H2.o.1)
  obtain⟨m0,m1,m2,m3,m4,m5,m6,_⟩:=Xx (up hW H2.o.2)
  exact⟨c0,c1,c2,c3,m0,m1,m2,m3,m4,m5,m6⟩⟩
 have CR:Sc (∀X,Below w1.heap.size w1 X->Calls Tryz.prog 74 #[.pointer (some ⟨lb,0,none⟩)] X fun e w'=>e=.returned (.int .i64 (6*(q:Int)))/\Below w1.heap.size w1 w'):=⟨fun X hX=>by
  have:=Eb X lb none [] 0 (HLG.o.bel hX) (by show((0:Nat):Int)<=6*(q:Int);omega) (by show(q:Int)<=1000;omega) (by omega) (by omega)
  refine this.mono ?_
  rintro e w' ⟨he,hb⟩
  exact⟨by rw[he];show Ending.returned (.int .i64 (6*(q:Int) - ((0:Nat):Int)))=_;rw[show 6*(q:Int) - ((0:Nat):Int)=6*q from by omega],Q5 hX hb⟩⟩
 have CSP:Sc (∀X,Below w1.heap.size w1 X->Calls Tryz.prog 92 #[.int .i64 (6*(q:Int))] X fun e w'=>∃spb,e=.returned (.pointer (some ⟨spb,0,none⟩))/\Yw w' spb (6*q) 0/\w1.heap.size<=spb/\Below w1.heap.size w1 w'):=⟨fun X hX=>by
  refine(Q9p X (6*q) (by omega) (by omega)).mono ?_
  rintro e w' ⟨he,hs,hb⟩
  exact⟨_,he,hs,hX.size,Q5 hX hb⟩⟩
 have HQ:Sc (Below w1.heap.size w1 w1):=⟨Below.refl _ _⟩
 clear h
 go_enter Tryz.func51,Tryz.ntmps51
 go_upto_region 1 with fail
 try rw[hw1]
 try rw[hb6]
 clear hw1 hb6
 go_cut [13] from 14 to 23 (fun s13 wx=>∃nb spb,s13=.pointer (some ⟨nb,0,none⟩)/\Sc (Below w1.heap.size w1 wx)/\Sc (Yw wx spb (6*q) 0/\w1.heap.size<=spb)/\Sc (wx.heap[nb]? =some (.cells (X2c p q f ss db lb pb spb) 93 (0,0)))/\Sc (w1.heap.size<=nb/\nb≠spb))
 case first=>
  go_region_held3 (fun W=>W.cell? ⟨b6,0,none⟩=some (.int .i64 p)/\W.cell? ⟨b6,1,none⟩=some (.int .i64 q)/\W.cell? ⟨b6,2,none⟩=some (.int .i64 f)/\W.cell? ⟨b6,3,none⟩=some (.int .i64 ss)/\W.cell? ⟨b6+1,0,none⟩=some (.int .i64 1)/\W.cell? ⟨b6+1,1,none⟩=some (.int .i64 0)/\W.cell? ⟨b6+1,2,none⟩=some (.int .i64 1)/\W.cell? ⟨b6+1,3,none⟩=some (.int .i64 0)/\W.cell? ⟨b6+1,4,none⟩=some (.int .i64 p)/\W.cell? ⟨b6+1,5,none⟩=some (.int .i64 q)/\W.cell? ⟨b6+1,6,none⟩=some (.int .i64 f))
   (first|exact SK.o _ HQ.o|exact SK.o _ (Below.drew HQ.o)|exact SK.o _ (Q3 HQ.o _)|exact SK.o _ (Below.drew (Q3 HQ.o _)))
   (first
    |(go_at_call 74;go_loud (refine(CR.o _ (by first|with_reducible exact HQ.o|with_reducible exact Below.drew HQ.o)).mono ?_;rintro e wt ⟨rfl,hq⟩;have HQ:=Q0 hq;clear hq))
    |(go_at_call 92;go_loud (refine(CSP.o _ (by first|with_reducible exact HQ.o|with_reducible exact Below.drew HQ.o)).mono ?_;rintro e wu ⟨spb,rfl,hsp,hsl,hq⟩;have HQ:=Q0 hq;have HSP:=Q0 hsp;have HSL:=Q0 hsl;clear hq hsp hsl)))
  all_goals
   go_wp2_with fail
   go_meet
   case rel=>exact⟨_,spb,rfl,⟨Q3 HQ.o _⟩,⟨HSP.o.kp (Kp.Qi (Q3 (Below.refl _ _) _) (fun _=>False)) id,HSL.o⟩,⟨heap_alloc_new _ _⟩,⟨HQ.o.size,fun he=>by have:=Q6 HSP.o.at_;omega⟩⟩
 case rest=>
  obtain⟨nb,spb,rfl,HB2,HSP,HN,HNS⟩:=hcut
  obtain⟨w2,rfl⟩:∃w2,w2=wc:=⟨_,rfl⟩
  have CSE:=Q0 (X3a w2 p q f ss nb db lb pb spb HN.o)
  have ln:=Q6 HN.o
  go_wp2_with fail
  refine CSE.o.mono ?_
  rintro e w3 ⟨rfl,hn,hk⟩
  have HN3:=Q0 hn
  have HK3:=Q0 hk
  clear hn hk ln
  go_wp2
  go_ret
  have hnb:=HNS.o.1
  have hb1:=HB1.o.size
  exact⟨nb,spb,rfl,HSP.o.1.kp HK3.o (fun he=>HNS.o.2 he.symm),X9m HN3.o,by have:=HSP.o.2;omega,by omega,HNS.o.2,(Q5 HB1.o HB2.o).trans (HK3.o.below (Q5 HB1.o HB2.o).size (fun z hz=>by have:z=nb:=hz;omega))⟩
end
end Go.Proofs.YtoapihepdallbaaGreatDoor
