import Derived.Test.YtoapihepdallbaaGreatDoorP38
import Derived.Test.YtoapihepdallbaaGreatDoorP39
namespace Go.Proofs.YtoapihepdallbaaGreatDoor
open Go.RowKit
set_option maxRecDepth 4000 in
set_option maxHeartbeats 8000000 in
theorem Q7a(w:World)(S:WG)(n k v hint:Nat)(key:Int)(h:Qh S w)(hn:n<S.T.Qu)(hc:Cnt S k v)(hk:k<200)(hv:v<=500000)(hok:Ok S.P.pages (6*S.P.bl) S.abs)(hk0:0<=key)(hkey:key<1048576)(hh:hint<=1000000):
  Calls Tryz.prog 59 #[.pointer (some ⟨S.T.sb,0,none⟩),.int .i64 n,.int .i64 key,.int .i64 hint] w fun e w'=>(∃x b c,e=.returned (.tuple #[.int .i64 x,.bool b,X5 c]))/\∃S',Yn S S' (k+1) (v+401) w w':=by
 have HZ0:=Q0 h
 have HOK:=Q0 hok
 have HH:=Q0 (And.intro hn (And.intro hv (And.intro hh (And.intro hk0 hkey))))
 obtain⟨w1,hw1⟩:∃w1,w.alloc (.cells fz 41)=w1:=⟨_,rfl⟩
 have HB1:Sc (Below w.heap.size w w1):=⟨hw1▸Q3 (Below.refl _ _) _⟩
 have HBS:Sc (w1.heap.size=w.heap.size+1):=⟨by rw[<-hw1];simp⟩
 have HN1:Sc (w1.heap[w.heap.size]? =some (.cells fz 41 (0,0))):=⟨by rw[<-hw1];exact heap_alloc_new _ _⟩
 have HZ:Sc (Qh S w1):=⟨(Q1 S).bel h HB1.o⟩
 obtain⟨b12,hb12⟩:∃b,w.heap.size=b:=⟨_,rfl⟩
 have HB12:=Q0 hb12
 rw[hb12]at HN1
 have HNO:Sc (¬(Q1 S).U b12):=⟨fun hu=>by have:=(Q1 S).lt HZ0.o _ hu;have:=HB12.o;omega⟩
 have CT:=Q5r w1 S n hint k v key 2 HZ.o hn hc hk (by omega) (.inr rfl) hk0 hkey hh
 obtain⟨sb,hsb⟩:∃sb,S.T.sb=sb:=⟨_,rfl⟩
 have HSB:=Q0 hsb
 rw[hsb]at CT ⊢
 have CT:=Q0 CT
 clear h hn hc hk hv hok hk0 hkey hh hsb
 go_enter Tryz.func59,Tryz.ntmps59
 go_wp2_with fail
 try rw[hw1]
 try rw[hb12]
 clear hw1 hb12
 refine CT.o.mono ?_
 rintro e w2 ⟨S1,ht,hc1,hres⟩
 have HT:=Q0 ht
 have HC1:=Q0 hc1
 have HL2:Sc (Q8 (Q1 S) (Q1 S1) w w2):=⟨Part.from_ ht.leaves HB1.o⟩
 have HN2:Sc (w2.heap[b12]? =some (.cells fz 41 (0,0))):=⟨ht.leaves.2.1.at HN1.o HNO.o⟩
 have HU2:Sc (¬(Q1 S1).U b12):=⟨fun hu=>(ht.leaves.2.2 _ hu).elim HNO.o (fun hn=>by have:=HBS.o;have:=HB12.o;omega)⟩
 have HSB1:Sc (S1.T.sb=sb/\n<S1.T.Qu):=⟨by rw[ht.kept.sb];exact HSB.o,by rw[ht.kept.Qu];exact HH.o.1⟩
 clear ht hc1
 rcases hres with ⟨c,hc0,rfl⟩|⟨⟨gn,glsn,gA,gs,gc,gl⟩,id,rfl,hg,hgn,hid,hmn,hlk⟩
 ·have HC0:=Q0 hc0
  clear hc0
  go_upto_region 2 with fail
  obtain⟨w3,hw3⟩:∃w3,(w2.alloc (.cells #[.int .i64 0,.slice none 0 0] 197)).alloc (.cells #[.int .i64 c,.bool false,.int .i64 0] 41)=w3:=⟨_,rfl⟩
  obtain⟨b11,hb11⟩:∃b11,w2.heap.size=b11:=⟨_,rfl⟩
  have H3:=Ym w2 (.cells #[.int .i64 0,.slice none 0 0] 197) (.cells #[.int .i64 c,.bool false,.int .i64 0] 41)
  have HB3:Sc (Below w2.heap.size w2 w3):=⟨by rw[<-hw3];exact Q3 (Q3 (Below.refl _ _) _) _⟩
  have HL3:=Q0 (Part.Qs HL2.o HB3.o)
  rw[hw3,hb11]at H3
  have H3:=Q0 H3
  rw[hw3]
  try rw[hb11]
  clear hw3 hb11
  obtain⟨p0,p1,p2,p3,p4,p5,lp⟩:=Q7 H3.o.2
  go_wp2_with fail
  refine(Z0 w3 c HC0.o).mono ?_
  rintro e w4 ⟨rfl,hb4⟩
  have HL4:=Q0 (Part.Qs HL3.o hb4)
  have HN4:=Q0 (up (Q5 HB3.o hb4) HN2.o)
  have HN3:=Q0 (up hb4 H3.o.2)
  have CGV:=Uc w4 S1 n (k+1) (v+1) hint c HL4.o.1 HSB1.o.2 HC1.o (by have:=HH.o.2.1;omega) (HT.o.ok HOK.o) HH.o.2.2.1
  rw[HSB1.o.1]at CGV
  have CGV:=Q0 CGV
  clear hb4 p0 p1 p2 p3 p4 p5 lp
  obtain⟨p0,p1,p2,p3,p4,p5,lp⟩:=Q7 HN3.o
  go_wp2_with fail
  refine CGV.o.mono ?_
  rintro e w5 ⟨⟨c5,rfl⟩,S2,hd⟩
  have HD:=Q0 hd
  have HL5:=Q0 (Part.trans HL4.o hd.leaves)
  have HN5:=Q0 (hd.leaves.2.1.at HN4.o HU2.o)
  have HU5:Sc (¬(Q1 S2).U b12):=⟨fun hu=>(hd.leaves.2.2 _ hu).elim HU2.o (fun hn=>by have:=Q6 HN4.o;omega)⟩
  clear hd p0 p1 p2 p3 p4 p5 lp
  obtain⟨z0,z1,z2,y0,y1,y2,lz⟩:=Q7 HN5.o
  go_wp2
  refine bodyPost_ret (v:=.tuple #[.int .i64 0,.bool false,X5 c5]) (by simp[results,Tryz.results59,go_sem,z0,z1,z2]) rfl ⟨⟨0,false,c5,rfl⟩,S2,?_,HT.o.kept.Qs HD.o.kept,HD.o.cnt.upv (by omega),HD.o.ok⟩
  have e1:=HB12.o
  have hu:=HU5.o
  repeat (first|with_reducible exact HL5.o|with_reducible refine Part.drew ?_|with_reducible refine Part.Y9 ?_ (by omega) hu)
 ·obtain⟨px,hpx⟩:∃px,Zr key S.P.pages=px:=⟨_,rfl⟩
  rw[hpx]at hgn
  have hgn':gn=px:=hgn
  have HG:=Q0 (And.intro hg (And.intro hgn' (And.intro hid (And.intro hmn (And.intro (hlk trivial) hpx)))))
  clear hg hgn hgn' hid hmn hlk hpx
  go_upto_region 2 with fail
  obtain⟨w3,hw3⟩:∃w3,(w2.alloc (.cells #[.int .i64 glsn,.slice gA gs gc] 197)).alloc (.cells #[.int .i64 0,.bool false,.int .i64 0] 41)=w3:=⟨_,rfl⟩
  obtain⟨b13,hb13⟩:∃b13,w2.heap.size=b13:=⟨_,rfl⟩
  have H3:=Ym w2 (.cells #[.int .i64 glsn,.slice gA gs gc] 197) (.cells #[.int .i64 0,.bool false,.int .i64 0] 41)
  have HB3:Sc (Below w2.heap.size w2 w3):=⟨by rw[<-hw3];exact Q3 (Q3 (Below.refl _ _) _) _⟩
  have HL3:=Q0 (Part.Qs HL2.o HB3.o)
  have HU3:Sc (∀q,w2.heap.size<=q->¬(Q1 S1).U q):=⟨fun q hq hu=>by have:=(Q1 S1).lt HL2.o.1 _ hu;omega⟩
  have HSZ:Sc (w2.heap.size=b13/\w.heap.size<=w2.heap.size):=⟨hb13,HL2.o.2.1.size⟩
  rw[hw3,hb13]at H3
  have H3:=Q0 H3
  rw[hw3]
  try rw[hb13]
  clear hw3 hb13
  obtain⟨p0,p1,p2,p3,p4,p5,lp⟩:=Q7 H3.o.2
  go_wp2_with fail
  refine(Yf w3).mono ?_
  rintro e w4 ⟨rfl,hb4⟩
  have HL4:=Q0 (Part.Qs HL3.o hb4)
  have HB24:=Q0 (Q5 HB3.o hb4)
  have HB34:=Q0 hb4
  have HN4:=Q0 (up hb4 H3.o.1)
  have HGE:Sc (Own Qj 2 227 0 w4 (.slice gA gs gc) gl):=⟨HL4.o.1.X2.own.Q1e ⟨gn,glsn,gA,gs,gc,gl⟩ HG.o.1⟩
  have HOKG:Sc (OkP glsn gl/\G6 gl):=⟨by
   have h1:=(HL4.o.1.X2.plain.here _ HG.o.1).2.2
   have h2:=HL4.o.1.X2.plain.ok gn
   rw[h1]at h2
   exact⟨h2.1,h2.2⟩⟩
  have HPG:Sc (S1.P.pages=S.P.pages/\1<=S.P.pages/\S.P.pages<=32):=⟨HT.o.same.pages,by have:=HZ0.o.X2.plain.pg;omega⟩
  obtain⟨xv,hxv⟩:∃xv,(look gl key).getD 0=xv:=⟨_,rfl⟩
  obtain⟨xb,hxb⟩:∃xb,has gl key=xb:=⟨_,rfl⟩
  have HXV:=Q0 (And.intro hxv hxb)
  have CF:=Vk w4 0 glsn (.slice gA gs gc) gl key HGE.o HOKG.o.1.2.2.2.2.rising (by have:=HOKG.o.1.2.2.1;omega)
  rw[hxv,hxb]at CF
  have CF:=Q0 CF
  clear hb4 p0 p1 p2 p3 p4 p5 lp hxv hxb
  obtain⟨g0,g1⟩:=Qf HN4.o
  go_wp2_with fail
  refine CF.o.mono ?_
  rintro e w5 ⟨rfl,hb5⟩
  have HL5:=Q0 (Part.Qs HL4.o hb5)
  have HB25:=Q0 (Q5 HB24.o hb5)
  have HB35:=Q0 (Q5 HB34.o hb5)
  clear hb5 g0 g1
  cases xb with
  |false=>
   obtain⟨p0,p1,p2,p3,p4,p5,lp⟩:=Q7 (up HB35.o H3.o.2)
   obtain⟨z0,z1,z2,y0,y1,y2,lz⟩:=Q7 (up HB25.o HN2.o)
   go_upto_region 6 with fail
   go_region
   all_goals
    go_wp2
    refine bodyPost_ret (v:=.tuple #[.int .i64 0,.bool false,X5 0]) (by simp[results,Tryz.results59,go_sem,z0,z1,z2]) rfl ⟨⟨0,false,0,rfl⟩,S1,?_,HT.o.kept,HC1.o.upv (by omega),HT.o.ok HOK.o⟩
    have e1:=HB12.o
    have hu:=HU2.o
    repeat (first|with_reducible exact HL5.o|with_reducible refine Part.drew ?_|with_reducible refine Part.Y9 ?_ (by omega) hu)
  |true=>
   have HFIT:Sc (Q0y S1 n ⟨gn,glsn,gA,gs,gc,gl⟩ id key xv 0 true false):=⟨by
    have hg:=HG.o
    refine⟨hg.2.2.1,by rw[HT.o.X1];exact hg.2.2.2.1,hg.1,?_,by have:=HH.o.2.2.2;omega,hg.2.2.2.2.1,.inl HXV.o.2,?_,⟨by omega,by omega,fun _=>rfl⟩,.inl rfl⟩
    ·show gn=Zr key S1.P.pages
     rw[hg.2.1,HPG.o.1];exact hg.2.2.2.2.2.symm
    ·have h1:=HOKG.o.2.look key
     rw[HXV.o.1]at h1
     exact⟨h1.1,h1.2.1,fun h=>by cases h⟩⟩
   have HN14:=Q0 (up HB35.o H3.o.2)
   have HN12:=Q0 (up HB25.o HN2.o)
   have CSE:Sc (∀X,Below w5.heap.size w5 X->Calls Tryz.prog 103 #[.pointer (some ⟨sb,0,none⟩),.int .i64 n,.agg #[.int .i64 glsn,.slice gA gs gc],.agg #[.int .i64 0,.int .i64 0,.int .i64 px,.int .i64 0,.int .i64 0,.int .i64 key,.bool true,.bool false,.int .i64 xv,.int .i64 0]] X fun e w'=>∃cs S',e=.returned (X5 cs)/\Q8 (Q1 S1) (Q1 S') w5 w'/\(Kept S1.T S'.T/\Cnt S' (k+1) (v+1)/\Ok S'.P.pages (6*S'.P.bl) S'.abs)/\w'.heap[b13+1]? =some (.cells #[.int .i64 0,.bool false,.int .i64 0] 41 (0,0))):=⟨fun X hX=>by
    have:=X7w X S1 n (k+1) (v+1) ⟨gn,glsn,gA,gs,gc,gl⟩ id key xv 0 true false ((Q1 S1).bel HL5.o.1 hX) HSB1.o.2 HC1.o (HT.o.ok HOK.o) HFIT.o
    rw[HSB1.o.1]at this
    rw[show gn=px from HG.o.2.1]at this
    refine this.mono ?_
    rintro e w' ⟨⟨cs,he⟩,S',hd⟩
    have hl:=Part.from_ hd.leaves hX
    exact⟨cs,S',he,hl,⟨hd.kept,hd.cnt,hd.ok⟩,hl.2.1.at HN14.o (HU3.o _ (by have:=HSZ.o.1;omega))⟩⟩
   have CPL:Sc (∀X:World,Calls Tryz.prog 101 #[.int .i64 key,.int .i64 (S.P.pages:Nat)] X fun e w'=>e=.returned (.int .i64 px)/\X=w'):=⟨fun X=>by rw[<-HG.o.2.2.2.2.2];exact Dg X key (S.P.pages:Nat) (by have:=HPG.o.2;omega) (by have:=HPG.o.2;omega)⟩
   obtain⟨c0,_,_,_,_,_,_,lt⟩:=HL5.o.1.sto.cells
   rw[HSB1.o.1]at c0 lt
   rw[show S1.T.pages=S.P.pages from by rw[<-HPG.o.1];exact HL5.o.1.pg]at c0
   obtain⟨g0,g1⟩:=Qf (up HB35.o H3.o.1)
   have HR:Sc (Below w5.heap.size w5 w5):=⟨Below.refl _ _⟩
   go_upto_region 7 with fail
   go_cut [] from 39 to 52 (fun wx=>∃cs S2,Sc (Kept S1.T S2.T/\Cnt S2 (k+1) (v+1)/\Ok S2.P.pages (6*S2.P.bl) S2.abs)/\Sc (Q8 (Q1 S) (Q1 S2) w wx)/\Sc (wx.heap[b13+1]? =some (.cells #[.int .i64 cs,.bool false,.int .i64 0] 41 (0,0)))/\Sc (wx.heap[b12]? =some (.cells fz 41 (0,0)))/\Sc (¬(Q1 S2).U b12))
   case first=>
    go_region_law
     (first
      |(go_simp;go_at_call 101;go_loud (refine(CPL.o _).mono ?_;rintro e wp ⟨rfl,rfl⟩))
      |(go_simp;go_at_call 103;go_loud (refine(CSE.o _ (by first|with_reducible exact HR.o|with_reducible exact Below.drew HR.o)).mono ?_;rintro e w7 ⟨cs,S2,rfl,hl7,hk7,hn7⟩;have HL7:=Q0 hl7;have HK7:=Q0 hk7;have HN7:=Q0 hn7;obtain⟨p0,p1,p2,p3,p4,p5,lp⟩:=Q7 hn7;clear hl7 hk7 hn7)))
    all_goals
     go_wp2_with fail
     go_meet
     case rel=>
      have hsz:=Q6 HN14.o
      have hsz2:=Q6 HN12.o
      have hu14:¬(Q1 S2).U (b13+1):=fun hu=>(HL7.o.2.2 _ hu).elim (HU3.o _ (by have:=HSZ.o.1;omega)) (fun hn=>by omega)
      have hu12:¬(Q1 S2).U b12:=fun hu=>(HL7.o.2.2 _ hu).elim HU2.o (fun hn=>by omega)
      have hne:¬b13+1=b12:=by have:=HSZ.o.1;have:=Q6 HN2.o;omega
      exact⟨cs,S2,HK7,⟨Part.aside (Part.trans HL5.o HL7.o) De (by have:=HSZ.o;omega) hu14⟩,⟨J6 HN7.o⟩,⟨E6 (E6 (E6 (HL7.o.2.1.at HN12.o HU2.o) hne) hne) hne⟩,⟨hu12⟩⟩
   case rest=>
    obtain⟨cs,S2,HK8,HL8,HN14d,HN12d,HU8⟩:=hcut
    obtain⟨w8,rfl⟩:∃w8,w8=wc:=⟨_,rfl⟩
    have HSB2:Sc (S2.T.sb=sb/\n<S2.T.Qu):=⟨by rw[HK8.o.1.sb];exact HSB1.o.1,by rw[HK8.o.1.Qu];exact HSB1.o.2⟩
    clear c0 lt g0 g1
    obtain⟨p0,p1,p2,p3,p4,p5,lp⟩:=Q7 HN14d.o
    by_cases hcs:cs=0
    ·subst hcs
     go_wp2_with fail
     refine(Yf w8).mono ?_
     rintro e w9 ⟨rfl,hb9⟩
     have HL9:=Q0 (Part.Qs HL8.o hb9)
     have hn14:=up hb9 HN14d.o
     have hn12:=up hb9 HN12d.o
     clear p0 p1 p2 p3 p4 p5 lp hb9
     obtain⟨p0,p1,p2,p3,p4,p5,lp⟩:=Q7 hn14
     obtain⟨z0,z1,z2,y0,y1,y2,lz⟩:=Q7 hn12
     clear hn14 hn12
     go_upto_region 10 with fail
     go_region
     all_goals
      go_wp2
      refine bodyPost_ret (v:=.tuple #[.int .i64 xv,.bool true,X5 0]) (by simp[results,Tryz.results59,go_sem,z0,z1,z2]) rfl ⟨⟨xv,true,0,rfl⟩,S2,?_,HT.o.kept.Qs HK8.o.1,HK8.o.2.1.upv (by omega),HK8.o.2.2⟩
      have e1:=HB12.o
      have hu:=HU8.o
      repeat (first|with_reducible exact HL9.o|with_reducible refine Part.drew ?_|with_reducible refine Part.Y9 ?_ (by omega) hu)
    ·have HCS:=Q0 hcs
     clear hcs
     go_wp2_with fail
     refine(Z0 w8 cs HCS.o).mono ?_
     rintro e w9 ⟨rfl,hb9⟩
     have HL9:=Q0 (Part.Qs HL8.o hb9)
     have hn14:=up hb9 HN14d.o
     have HN12e:=Q0 (up hb9 HN12d.o)
     have CGV:=Uc w9 S2 n (k+1) (v+1) hint cs HL9.o.1 HSB2.o.2 HK8.o.2.1 (by have:=HH.o.2.1;omega) HK8.o.2.2 HH.o.2.2.1
     rw[HSB2.o.1]at CGV
     have CGV:=Q0 CGV
     clear p0 p1 p2 p3 p4 p5 lp hb9
     obtain⟨p0,p1,p2,p3,p4,p5,lp⟩:=Q7 hn14
     clear hn14
     go_wp2_with fail
     refine CGV.o.mono ?_
     rintro e w10 ⟨⟨c10,rfl⟩,S3,hd⟩
     have HD3:=Q0 hd
     have HL10:=Q0 (Part.trans HL9.o hd.leaves)
     have HN12f:=Q0 (hd.leaves.2.1.at HN12e.o HU8.o)
     have HU10:Sc (¬(Q1 S3).U b12):=⟨fun hu=>(hd.leaves.2.2 _ hu).elim HU8.o (fun hn=>by have:=Q6 HN12e.o;omega)⟩
     clear hd p0 p1 p2 p3 p4 p5 lp
     obtain⟨z0,z1,z2,y0,y1,y2,lz⟩:=Q7 HN12f.o
     go_wp2
     refine bodyPost_ret (v:=.tuple #[.int .i64 0,.bool false,X5 c10]) (by simp[results,Tryz.results59,go_sem,z0,z1,z2]) rfl ⟨⟨0,false,c10,rfl⟩,S3,?_,(HT.o.kept.Qs HK8.o.1).Qs HD3.o.kept,HD3.o.cnt.upv (by omega),HD3.o.ok⟩
     have e1:=HB12.o
     have hu:=HU10.o
     repeat (first|with_reducible exact HL10.o|with_reducible refine Part.drew ?_|with_reducible refine Part.Y9 ?_ (by omega) hu)
set_option maxRecDepth 4000 in
set_option maxHeartbeats 8000000 in
theorem X6n(w:World)(S:WG)(n k v hint:Nat)(key:Int)(h:Qh S w)(hn:n<S.T.Qu)(hc:Cnt S k v)(hk:k<200)(hv:v<=500000)(hok:Ok S.P.pages (6*S.P.bl) S.abs)(hk0:0<=key)(hkey:key<1048576)(hh:hint<=1000000):
  Calls Tryz.prog 57 #[.pointer (some ⟨S.T.sb,0,none⟩),.int .i64 n,.int .i64 key,.int .i64 hint] w fun e w'=>(∃x b c,e=.returned (.tuple #[.int .i64 x,.bool b,X5 c]))/\∃S',Yn S S' (k+1) (v+401) w w':=by
 have HZ0:=Q0 h
 have HOK:=Q0 hok
 have HH:=Q0 (And.intro hn (And.intro hv hh))
 obtain⟨w1,hw1⟩:∃w1,w.alloc (.cells fz 41)=w1:=⟨_,rfl⟩
 have HB1:Sc (Below w.heap.size w w1):=⟨hw1▸Q3 (Below.refl _ _) _⟩
 have HBS:Sc (w1.heap.size=w.heap.size+1):=⟨by rw[<-hw1];simp⟩
 have HN1:Sc (w1.heap[w.heap.size]? =some (.cells fz 41 (0,0))):=⟨by rw[<-hw1];exact heap_alloc_new _ _⟩
 have HZ:Sc (Qh S w1):=⟨(Q1 S).bel h HB1.o⟩
 obtain⟨b10,hb10⟩:∃b,w.heap.size=b:=⟨_,rfl⟩
 have HB10:=Q0 hb10
 rw[hb10]at HN1
 have HNO:Sc (¬(Q1 S).U b10):=⟨fun hu=>by have:=(Q1 S).lt HZ0.o _ hu;have:=HB10.o;omega⟩
 have CT:=Q5r w1 S n hint k v key 1 HZ.o hn hc hk (by omega) (.inl rfl) hk0 hkey hh
 obtain⟨sb,hsb⟩:∃sb,S.T.sb=sb:=⟨_,rfl⟩
 have HSB:=Q0 hsb
 rw[hsb]at CT ⊢
 have CT:=Q0 CT
 clear h hn hc hk hv hok hk0 hkey hh hsb
 go_enter Tryz.func57,Tryz.ntmps57
 go_wp2_with fail
 try rw[hw1]
 try rw[hb10]
 clear hw1 hb10
 refine CT.o.mono ?_
 rintro e w2 ⟨S1,ht,hc1,hres⟩
 have HT:=Q0 ht
 have HC1:=Q0 hc1
 have HL2:Sc (Q8 (Q1 S) (Q1 S1) w w2):=⟨Part.from_ ht.leaves HB1.o⟩
 have HN2:Sc (w2.heap[b10]? =some (.cells fz 41 (0,0))):=⟨ht.leaves.2.1.at HN1.o HNO.o⟩
 have HU2:Sc (¬(Q1 S1).U b10):=⟨fun hu=>(ht.leaves.2.2 _ hu).elim HNO.o (fun hn=>by have:=HBS.o;have:=HB10.o;omega)⟩
 have HSB1:Sc (S1.T.sb=sb/\n<S1.T.Qu):=⟨by rw[ht.kept.sb];exact HSB.o,by rw[ht.kept.Qu];exact HH.o.1⟩
 clear ht hc1
 rcases hres with ⟨c,hc0,rfl⟩|⟨⟨gn,glsn,gA,gs,gc,gl⟩,id,rfl,hg,hgn,_,_,_⟩
 ·have HC0:=Q0 hc0
  clear hc0
  go_upto_region 2 with fail
  obtain⟨w3,hw3⟩:∃w3,(w2.alloc (.cells #[.int .i64 0,.slice none 0 0] 197)).alloc (.cells #[.int .i64 c,.bool false,.int .i64 0] 41)=w3:=⟨_,rfl⟩
  obtain⟨b11,hb11⟩:∃b11,w2.heap.size=b11:=⟨_,rfl⟩
  have H3:=Ym w2 (.cells #[.int .i64 0,.slice none 0 0] 197) (.cells #[.int .i64 c,.bool false,.int .i64 0] 41)
  have HB3:Sc (Below w2.heap.size w2 w3):=⟨by rw[<-hw3];exact Q3 (Q3 (Below.refl _ _) _) _⟩
  have HL3:=Q0 (Part.Qs HL2.o HB3.o)
  rw[hw3,hb11]at H3
  have H3:=Q0 H3
  rw[hw3]
  try rw[hb11]
  clear hw3 hb11
  obtain⟨p0,p1,p2,p3,p4,p5,lp⟩:=Q7 H3.o.2
  go_wp2_with fail
  refine(Z0 w3 c HC0.o).mono ?_
  rintro e w4 ⟨rfl,hb4⟩
  have HL4:=Q0 (Part.Qs HL3.o hb4)
  have HN4:=Q0 (up (Q5 HB3.o hb4) HN2.o)
  have HN3:=Q0 (up hb4 H3.o.2)
  have CGV:=Uc w4 S1 n (k+1) (v+1) hint c HL4.o.1 HSB1.o.2 HC1.o (by have:=HH.o.2.1;omega) (HT.o.ok HOK.o) HH.o.2.2
  rw[HSB1.o.1]at CGV
  have CGV:=Q0 CGV
  clear hb4 p0 p1 p2 p3 p4 p5 lp
  obtain⟨p0,p1,p2,p3,p4,p5,lp⟩:=Q7 HN3.o
  go_wp2_with fail
  refine CGV.o.mono ?_
  rintro e w5 ⟨⟨c5,rfl⟩,S2,hd⟩
  have HD:=Q0 hd
  have HL5:=Q0 (Part.trans HL4.o hd.leaves)
  have HN5:=Q0 (hd.leaves.2.1.at HN4.o HU2.o)
  have HU5:Sc (¬(Q1 S2).U b10):=⟨fun hu=>(hd.leaves.2.2 _ hu).elim HU2.o (fun hn=>by have:=Q6 HN4.o;omega)⟩
  clear hd p0 p1 p2 p3 p4 p5 lp
  obtain⟨z0,z1,z2,y0,y1,y2,lz⟩:=Q7 HN5.o
  go_wp2
  refine bodyPost_ret (v:=.tuple #[.int .i64 0,.bool false,X5 c5]) (by simp[results,Tryz.results57,go_sem,z0,z1,z2]) rfl ⟨⟨0,false,c5,rfl⟩,S2,?_,HT.o.kept.Qs HD.o.kept,HD.o.cnt.upv (by omega),HD.o.ok⟩
  have e1:=HB10.o
  have hu:=HU5.o
  repeat (first|with_reducible exact HL5.o|with_reducible refine Part.drew ?_|with_reducible refine Part.Y9 ?_ (by omega) hu)
 ·have HG:=Q0 (And.intro hg hgn)
  clear hg hgn
  go_upto_region 2 with fail
  obtain⟨w3,hw3⟩:∃w3,(w2.alloc (.cells #[.int .i64 glsn,.slice gA gs gc] 197)).alloc (.cells #[.int .i64 0,.bool false,.int .i64 0] 41)=w3:=⟨_,rfl⟩
  obtain⟨b11,hb11⟩:∃b11,w2.heap.size=b11:=⟨_,rfl⟩
  have H3:=Ym w2 (.cells #[.int .i64 glsn,.slice gA gs gc] 197) (.cells #[.int .i64 0,.bool false,.int .i64 0] 41)
  have HB3:Sc (Below w2.heap.size w2 w3):=⟨by rw[<-hw3];exact Q3 (Q3 (Below.refl _ _) _) _⟩
  have HL3:=Q0 (Part.Qs HL2.o HB3.o)
  rw[hw3,hb11]at H3
  have H3:=Q0 H3
  rw[hw3]
  try rw[hb11]
  clear hw3 hb11
  obtain⟨p0,p1,p2,p3,p4,p5,lp⟩:=Q7 H3.o.2
  go_wp2_with fail
  refine(Yf w3).mono ?_
  rintro e w4 ⟨rfl,hb4⟩
  have HL4:=Q0 (Part.Qs HL3.o hb4)
  have HB24:=Q0 (Q5 HB3.o hb4)
  have HN4:=Q0 (up hb4 H3.o.1)
  have HN3:=Q0 (up hb4 H3.o.2)
  have HGE:Sc (Own Qj 2 227 0 w4 (.slice gA gs gc) gl):=⟨HL4.o.1.X2.own.Q1e ⟨gn,glsn,gA,gs,gc,gl⟩ HG.o.1⟩
  have HOKG:Sc (OkP glsn gl):=⟨by
   have h1:=(HL4.o.1.X2.plain.here _ HG.o.1).2.2
   have h2:=(HL4.o.1.X2.plain.ok gn).1
   rw[h1]at h2
   exact h2⟩
  obtain⟨xv,hxv⟩:∃xv,(look gl key).getD 0=xv:=⟨_,rfl⟩
  obtain⟨xb,hxb⟩:∃xb,has gl key=xb:=⟨_,rfl⟩
  have CF:=Vk w4 0 glsn (.slice gA gs gc) gl key HGE.o HOKG.o.2.2.2.2.rising (by have:=HOKG.o.2.2.1;omega)
  rw[hxv,hxb]at CF
  have CF:=Q0 CF
  clear hb4 p0 p1 p2 p3 p4 p5 lp hxv hxb
  obtain⟨g0,g1⟩:=Qf HN4.o
  go_wp2_with fail
  refine CF.o.mono ?_
  rintro e w5 ⟨rfl,hb5⟩
  have HL5:=Q0 (Part.Qs HL4.o hb5)
  have HN5:=Q0 (up (Q5 HB24.o hb5) HN2.o)
  have HN6:=Q0 (up hb5 HN3.o)
  clear hb5 g0 g1
  obtain⟨p0,p1,p2,p3,p4,p5,lp⟩:=Q7 HN6.o
  obtain⟨z0,z1,z2,y0,y1,y2,lz⟩:=Q7 HN5.o
  go_upto_region 5 with fail
  go_region
  all_goals
   go_wp2
   refine bodyPost_ret (v:=.tuple #[.int .i64 xv,.bool xb,X5 0]) (by simp[results,Tryz.results57,go_sem,z0,z1,z2]) rfl ⟨⟨xv,xb,0,rfl⟩,S1,?_,HT.o.kept,HC1.o.upv (by omega),HT.o.ok HOK.o⟩
   have e1:=HB10.o
   have hu:=HU2.o
   repeat (first|with_reducible exact HL5.o|with_reducible refine Part.drew ?_|with_reducible refine Part.Y9 ?_ (by omega) hu)
theorem Vv{w:World}{b:Nat}{u0 u1 u2 u3 u4:Value}{t:TypeId}(h:w.heap[b]? =some (.cells #[u0,u1,u2,u3,u4] t (0,0))):w.cell? ⟨b,0,none⟩=some u0/\w.cell? ⟨b,1,none⟩=some u1/\w.cell? ⟨b,2,none⟩=some u2/\w.cell? ⟨b,3,none⟩=some u3/\w.cell? ⟨b,4,none⟩=some u4/\w.frozen? ⟨b,0,none⟩=false/\w.frozen? ⟨b,1,none⟩=false/\w.frozen? ⟨b,2,none⟩=false/\w.frozen? ⟨b,3,none⟩=false/\w.frozen? ⟨b,4,none⟩=false/\b<w.heap.size:=
 ⟨by simp[World.cell?,h],by simp[World.cell?,h],by simp[World.cell?,h],by simp[World.cell?,h],by simp[World.cell?,h],Q2 h 0,Q2 h 1,Q2 h 2,Q2 h 3,Q2 h 4,Q6 h⟩
abbrev J3:Array Value:= #[.int .i64 0,.bool false,.int .i64 0,.bool false,.int .i64 0]
set_option maxHeartbeats 1000000 in
theorem El(w:World)(c:Int):Calls Tryz.prog 55 #[.int .i64 c] w fun e w'=>e=.returned (.agg #[.int .i64 c,.bool false,.int .i64 0,.bool false,.int .i64 0])/\Below w.heap.size w w':=by
 obtain⟨w1,hw1⟩:∃w1,w.alloc (.cells J3 73)=w1:=⟨_,rfl⟩
 have HB1:Sc (Below w.heap.size w w1):=⟨hw1▸Q3 (Below.refl _ _) _⟩
 have HN1:Sc (w1.heap[w.heap.size]? =some (.cells J3 73 (0,0))):=⟨by rw[<-hw1];exact heap_alloc_new _ _⟩
 obtain⟨b2,hb2⟩:∃b,w.heap.size=b:=⟨_,rfl⟩
 have HB2:=Q0 hb2
 rw[hb2]at HN1
 go_enter Tryz.func55,Tryz.ntmps55
 go_wp2_with fail
 try rw[hw1]
 try rw[hb2]
 clear hw1 hb2
 refine(Yb _ c).mono ?_
 rintro e w2 ⟨rfl,hb⟩
 have HB:=Q0 (Q5 HB1.o hb)
 obtain⟨z0,z1,z2,z3,z4,y0,y1,y2,y3,y4,lz⟩:=Vv (up hb HN1.o)
 clear hb
 go_wp2
 refine bodyPost_ret (v:=.agg #[.int .i64 c,.bool false,.int .i64 0,.bool false,.int .i64 0]) (by simp[results,Tryz.results55,go_sem,z0,z1,z2,z3,z4]) rfl ⟨rfl,?_⟩
 have hl:=HB.o
 have e2:=HB2.o
 repeat (first|with_reducible exact hl|with_reducible refine Below.drew ?_|with_reducible refine Dc ?_ (by omega))
structure On(S:WG)(eb:Nat)(Qu:Int)(w:World):Prop where
 whole:Qh S w
 blk:w.heap[eb]? =some (.cells #[.pointer (some ⟨S.T.db,0,none⟩),.pointer (some ⟨S.T.sb,0,none⟩),.int .i64 Qu] 96 (0,0))
 far:¬(Q1 S).U eb
def Ur(S:WG)(k v:Nat)(w:World)(e:Ending)(w':World):Prop:=(∃r,e=.returned r)/\∃S',Yn S S' (k+1) (v+401) w w'
structure Ut(S:WG)(n key N hint:Nat)(V:Int)(k v:Nat):Prop where
 n:n<S.T.Qu
 cnt:Cnt S k v
 k:k<200
 v:v<=500000
 ok:Ok S.P.pages (6*S.P.bl) S.abs
 key:key<1048576
 N:N<=1000000
 hint:hint<=1000000
 V: -9223372036854775808<=V/\V<=9223372036854775807
 fr:1<=S.T.Xf/\S.T.Xf<=8
theorem Yn.wide{S S':WG}{k v k' v':Nat}{w w':World}(h:Yn S S' k v w w')(hk:k<=k')(h2:k'<=200)(hv:v<=v'):Yn S S' k' v' w w':=⟨h.leaves,h.kept,h.cnt.up hk h2 hv,h.ok⟩
end Go.Proofs.YtoapihepdallbaaGreatDoor
