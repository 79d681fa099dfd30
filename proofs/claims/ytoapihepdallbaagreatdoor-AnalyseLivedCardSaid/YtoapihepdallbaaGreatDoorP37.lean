import Derived.Test.YtoapihepdallbaaGreatDoorP35
namespace Go.Proofs.YtoapihepdallbaaGreatDoor
open Go.RowKit
set_option maxRecDepth 4000 in
set_option maxHeartbeats 8000000 in
theorem X3f(w:World)(S:WG)(n tk k v hint:Nat)(h:Qh S w)(hn:n<S.T.Qu)(hc:Cnt S k v)(hv:v<=600000)(hok:Ok S.P.pages (6*S.P.bl) S.abs)(hh:hint<=1000000)(hto0:tk<=1000000):
  Calls Tryz.prog 62 #[.pointer (some ⟨S.T.sb,0,none⟩),.int .i64 n,.int .i64 tk,.int .i64 hint] w fun e w'=>(∃c,e=.returned (X5 c))/\∃S',Yn S S' k (v+400) w w':=by
 have HZ0:=Q0 h
 have HC:=Q0 hc
 have HOK:=Q0 hok
 have hn8:n<8:=by have:=hc.Qu;omega
 obtain⟨w1,hw1⟩:∃w1,w.alloc (.cells fz 41)=w1:=⟨_,rfl⟩
 have HB1:Sc (Below w.heap.size w w1):=⟨hw1▸Q3 (Below.refl _ _) _⟩
 have HBS:Sc (w1.heap.size=w.heap.size+1):=⟨by rw[<-hw1];simp⟩
 have HN1:Sc (w1.heap[w.heap.size]? =some (.cells fz 41 (0,0))):=⟨by rw[<-hw1];exact heap_alloc_new _ _⟩
 have HZ:Sc (Qh S w1):=⟨(Q1 S).bel h HB1.o⟩
 obtain⟨b4,hb4⟩:∃b,w.heap.size=b:=⟨_,rfl⟩
 have HB4:=Q0 hb4
 have HBX:Sc (∀W,Kp (Q1 S).U w1 W->W.heap[b4]? =some (.cells fz 41 (0,0))):=⟨fun W hk=>hk.at (by rw[<-HB4.o];exact HN1.o) (fun hu=>by have:=(Q1 S).lt HZ0.o _ hu;have:=HB4.o;omega)⟩
 have CM:=Oh w1 S n HZ.o hn hc.Qu hc.wt2 (by have:=hc.tx;have:=hc.small;omega)
 obtain⟨sb,hsb⟩:∃sb,S.T.sb=sb:=⟨_,rfl⟩
 have HSB:=Q0 hsb
 rw[hsb]at CM ⊢
 have CM:=Q0 CM
 have HV:=Q0 hv
 have HHINT:=Q0 hh
 clear h hn hc hok hsb hv hh
 go_enter Tryz.func62,Tryz.ntmps62
 go_wp2_with fail
 try rw[hw1]
 try rw[hb4]
 clear hw1 hb4
 refine CM.o.mono ?_
 rintro e w2 ⟨hm,wr1,hl1⟩
 have HL1:=Q0 hl1
 obtain⟨S1,hS1⟩:∃S1,S.Y1 n wr1=S1:=⟨_,rfl⟩
 have HS1:=Q0 hS1
 rw[hS1]at HL1
 have HC1:Sc (Cnt S1 k v):=⟨by rw[<-hS1];exact HC.o.Y1 n wr1⟩
 have HSB1:Sc (S1.T.sb=sb/\S1.abs=S.abs/\S1.P=S.P/\Kept S.T S1.T/\S1.T.tx=S.T.tx/\S1.T.X1=S.T.X1):=⟨by rw[<-hS1];exact⟨HSB.o,rfl,rfl,Ys S.T,rfl,rfl⟩⟩
 clear hl1 hS1
 rcases hm with ⟨hm0,rfl⟩|⟨id,hid0,hid,rfl⟩
 ·clear hm0
  go_upto_region 3 with fail
  have HL3:Sc (Q8 (Q1 S) (Q1 S1) w1 (w2.alloc (.cells #[.int .i64 0,.int .i64 0,.int .i64 0,.int .i64 0] 58))):=⟨Part.Qs HL1.o (Q3 (Below.refl _ _) _)⟩
  obtain⟨w3,hw3⟩:∃w3,w2.alloc (.cells #[.int .i64 0,.int .i64 0,.int .i64 0,.int .i64 0] 58)=w3:=⟨_,rfl⟩
  rw[hw3]at HL3 ⊢
  clear hw3
  go_wp2_with fail
  refine(Yb _ 113).mono ?_
  rintro e w9 ⟨rfl,hb9⟩
  have HL9:=Q0 (Part.Qs HL3.o hb9)
  obtain⟨z0,z1,z2,y0,y1,y2,lz⟩:=Q7 (HBX.o w9 HL9.o.2.1)
  clear hb9
  go_wp2
  refine bodyPost_ret (v:=X5 113) (by simp[results,Tryz.results62,go_sem,z0,z1,z2]) rfl ⟨⟨113,rfl⟩,S1,?_,HSB1.o.2.2.2.1,HC1.o.upv (by omega),by rw[HSB1.o.2.1,HSB1.o.2.2.1];exact HOK.o⟩
  refine Part.boxed (A:=Q1 S) HZ0.o HB1.o HL9.o ?_
  have e1:=HBS.o
  have e2:=HB4.o
  repeat (first|with_reducible exact Kp.Vd|with_reducible refine Kp.drew ?_|with_reducible refine Kp.put ?_ ⟨by omega,by omega⟩ _)
 ·have HID:=Q0 (And.intro hid0 hid)
  clear hid0 hid
  go_upto_region 4 with fail
  obtain⟨xt,hxt⟩:∃xt,got S.T.tx id=xt:=⟨_,rfl⟩
  have HXT:=Q0 hxt
  rw[hxt]
  have HL3:Sc (Q8 (Q1 S) (Q1 S1) w1 (w2.alloc (.cells #[.int .i64 xt.1,.int .i64 xt.2.1,.int .i64 xt.2.2.1,.int .i64 xt.2.2.2] 58))):=⟨Part.Qs HL1.o (Q3 (Below.refl _ _) _)⟩
  have HN3:=heap_alloc_new w2 (.cells #[.int .i64 xt.1,.int .i64 xt.2.1,.int .i64 xt.2.2.1,.int .i64 xt.2.2.2] 58)
  have HU5:¬(Q1 S1).U w2.heap.size:=fun hu=>by have:=(Q1 S1).lt HL1.o.1 _ hu;omega
  obtain⟨w3,hw3⟩:∃w3,w2.alloc (.cells #[.int .i64 xt.1,.int .i64 xt.2.1,.int .i64 xt.2.2.1,.int .i64 xt.2.2.2] 58)=w3:=⟨_,rfl⟩
  obtain⟨b5,hb5⟩:∃b5,w2.heap.size=b5:=⟨_,rfl⟩
  rw[hw3]at HL3 HN3 ⊢
  rw[hb5]at HN3 HU5
  try rw[hb5]
  have HN3:=Q0 HN3
  have HU5:Sc (¬(Q1 S1).U b5/\b5<w3.heap.size/\w1.heap.size<=b5):=⟨HU5,Q6 HN3.o,by rw[<-hb5];exact HL1.o.2.1.size⟩
  clear hw3 hxt hb5
  obtain⟨y,hy⟩:∃y,S1.T.sav[n]? =some y:=⟨_,List.getElem?_eq_getElem (by rw[HL3.o.1.sto.ns];exact hn8)⟩
  have hs0:=HL3.o.1.sto.Q5m hy
  have hoy:=HL3.o.1.sto.sv y (List.mem_of_getElem? hy)
  obtain⟨yA,ys,yc,yl⟩:=y
  have hlen':ys=yl.length:=hoy.len
  subst hlen'
  have HOY:Sc (Own X6 1 3 0 w3 (.slice yA yl.length yc) yl):=⟨hoy⟩
  have HY:=Q0 hy
  have hs:w3.cell? ⟨sb,20+n,none⟩=some (.slice yA yl.length yc):=by rw[<-HSB1.o.1];exact hs0
  have lt2:=World.block_lt_of_cell? _ _ hs
  have hn8':(n:Int)<8:=by omega
  have b0:¬(tk:Int)<0:=by omega
  have e0:decide ((tk:Int)<0)=false:=decide_eq_false b0
  clear hs0 hoy hy
  by_cases hto:yl.length<=tk
  ·have hb:¬(tk:Int)<(yl.length:Int):=by omega
   have e1:decide ((tk:Int)<(yl.length:Int))=false:=decide_eq_false hb
   have e2:decide (yl.length<=tk)=true:=decide_eq_true hto
   go_wp2_with fail
   refine(Yb _ 115).mono ?_
   rintro e w9 ⟨rfl,hb9⟩
   have HL9:=Q0 (Part.Qs HL3.o hb9)
   obtain⟨z0,z1,z2,y0,y1,y2,lz⟩:=Q7 (HBX.o w9 HL9.o.2.1)
   clear hb9
   go_wp2
   refine bodyPost_ret (v:=X5 115) (by simp[results,Tryz.results62,go_sem,z0,z1,z2]) rfl ⟨⟨115,rfl⟩,S1,?_,HSB1.o.2.2.2.1,HC1.o.upv (by omega),by rw[HSB1.o.2.1,HSB1.o.2.2.1];exact HOK.o⟩
   refine Part.boxed (A:=Q1 S) HZ0.o HB1.o HL9.o ?_
   have e1:=HBS.o
   have e2:=HB4.o
   repeat (first|with_reducible exact Kp.Vd|with_reducible refine Kp.drew ?_|with_reducible refine Kp.put ?_ ⟨by omega,by omega⟩ _)
  ·have hb:(tk:Int)<(yl.length:Int):=by omega
   have e1:decide ((tk:Int)<(yl.length:Int))=true:=decide_eq_true hb
   have e2:decide (yl.length<=tk)=false:=decide_eq_false hto
   obtain⟨g,c2,he,_,hgl,hcap,_⟩:=HOY.o.form (by omega)
   injection he with hA _ hC
   subst hA
   subst hC
   obtain⟨tl,htl⟩:∃tl,yl[tk]? =some tl:=⟨_,List.getElem?_eq_getElem (by omega)⟩
   have d0:=HOY.o.Uw htl
   have HFR:Sc (∀W,Own X6 1 3 0 W (.slice (some ⟨g,0,none⟩) yl.length yc) yl->Own X6 1 3 0 W (.slice (some ⟨g,0,none⟩) (tk+1) yc) (yl.take (tk+1))):=⟨fun W hW=>hW.take Jm (by omega)⟩
   have CUN:Sc (∀X,Below w3.heap.size w3 X->Calls Tryz.prog 104 #[.pointer (some ⟨sb,0,none⟩),.int .i64 xt.1,.int .i64 tl,.int .i64 hint] X fun e w'=>∃c S',e=.returned (X5 c)/\Q8 (Q1 S1) (Q1 S') w3 w'/\Q8 (Q1 S1) (Q1 S') X w'/\Q8x S1 S' v xt.1 0 tl c/\∀b o,Oo X b o->w3.heap.size<=b->w'.heap[b]? =some o):=⟨fun X hX=>by
    have:=Q5t X S1 k v hint xt.1 0 tl ((Q1 S1).bel HL3.o.1 hX) HC1.o HV.o (by rw[HSB1.o.2.1,HSB1.o.2.2.1];exact HOK.o.to xt.1) (by omega) HHINT.o
    rw[HSB1.o.1]at this
    refine this.mono ?_
    rintro e w' ⟨c,S',he,hl,hu⟩
    exact⟨c,S',he,Part.from_ hl hX,hl,hu,fun b o hx hb=>hl.2.1.at hx (fun hu=>by have:=(Q1 S1).lt HL3.o.1 _ hu;omega)⟩⟩
   obtain⟨x0,x1,x2,x3,_,_,_,_,lx⟩:=Qz HN3.o
   have HQ:Sc (Below w3.heap.size w3 w3):=⟨Below.refl _ _⟩
   have HW3:=Q0 HL3.o.1
   clear hto htl
   go_upto_region 6 with fail
   go_cut [11] from 36 to 49 (fun s11 wx=>∃b11 c S2,s11=.pointer (some ⟨b11,0,none⟩)/\w3.heap.size<=b11/\Sc (Q8x S1 S2 v xt.1 0 tl c)/\Sc (Q8 (Q1 S1) (Q1 S2) w3 wx)/\Sc (wx.heap[b11]? =some (.cells #[.int .i64 c,.bool false,.int .i64 0] 41 (0,0)))/\Sc (¬(Q1 S2).U b11))
   case first=>
    go_region_law
     (first
      |(go_simp;go_at_call 104;go_loud (refine(CUN.o _ (by first|with_reducible exact HQ.o|with_reducible exact Below.drew HQ.o|with_reducible exact Q3 HQ.o _|with_reducible exact Below.drew (Q3 HQ.o _))).mono ?_;rintro e wt ⟨c,S2,rfl,hl,hl2,hu,hh⟩;have HLT:=Q0 hl;have HLT2:=Q0 hl2;have HUT:=Q0 hu;have hsz:=hl.2.1.size;(first|(with_reducible have N1:=hh _ _ (Cz w3 (.cells fz 41)) (Nat.le_refl _);obtain⟨f0,f1,f2,f3,f4,f5,lf⟩:=Q7 N1;have HN:=Q0 N1;clear N1)|(with_reducible have N1:=hh _ _ (Cz w3 (.cells fz 41)).drew (Nat.le_refl _);obtain⟨f0,f1,f2,f3,f4,f5,lf⟩:=Q7 N1;have HN:=Q0 N1;clear N1)|skip);clear hl hl2 hu hh)))
    all_goals
     go_wp2_with fail
     go_meet
     case rel=>
      first
       |exact⟨_,c,S2,rfl,HLT.o.2.1.size,HUT,⟨Part.Q4p HLT.o _⟩,⟨heap_alloc_new _ _⟩,⟨fun hu=>by have:=(Q1 S2).lt HLT.o.1 _ hu;omega⟩⟩
       |exact⟨_,c,S2,rfl,Nat.le_refl _,HUT,⟨Part.Y9 (Part.Y9 (Part.Y9 HLT.o (Nat.le_refl _) (U6 HW3.o HLT2.o (Nat.le_refl _) (by left;simp))) (Nat.le_refl _) (U6 HW3.o HLT2.o (Nat.le_refl _) (by left;simp))) (Nat.le_refl _) (U6 HW3.o HLT2.o (Nat.le_refl _) (by left;simp))⟩,⟨J6 HN.o⟩,⟨U6 HW3.o HLT2.o (Nat.le_refl _) (by left;simp)⟩⟩
   case rest=>
    obtain⟨b11,c,S2,rfl,hb11,HUN,HL4,HN11,HU11⟩:=hcut
    obtain⟨w4,rfl⟩:∃w4,w4=wc:=⟨_,rfl⟩
    have HU2:=Q0 HUN.o.1
    have HSB2:Sc (S2.T.sb=sb/\S2.T.sav[n]? =some ⟨some ⟨g,0,none⟩,yl.length,yc,yl⟩):=⟨by rw[HU2.o.kept.sb];exact HSB1.o.1,by rw[HU2.o.sav];exact HY.o⟩
    have hs4:=HL4.o.1.sto.Q5m HSB2.o.2
    rw[HSB2.o.1]at hs4
    have lt4:=World.block_lt_of_cell? _ _ hs4
    have HOY4:Sc (Own X6 1 3 0 w4 (.slice (some ⟨g,0,none⟩) yl.length yc) yl):=⟨HL4.o.1.sto.sv _ (List.mem_of_getElem? HSB2.o.2)⟩
    have f4:w4.frozen? ⟨sb,20+n,none⟩=false:=by rw[<-HSB2.o.1];exact HL4.o.1.sto.frozen (20+n)
    have HSV:Sc (∀W,Below w4.heap.size w4 W->Q8 (Q1 S2) (Q1 (S2.saved n ⟨some ⟨g,0,none⟩,tk+1,yc,yl.take (tk+1)⟩)) w4 (W.setCell ⟨sb,20+n,none⟩ (.slice (some ⟨g,0,none⟩) (tk+1) yc))):=⟨fun W hW=>by
     have hz:Qh S2 W:=(Q1 S2).bel HL4.o.1 hW
     have:=HL4.o.1.Jn (hz.X6g (w0:=w4) (n:=n) (x:=⟨some ⟨g,0,none⟩,tk+1,yc,yl.take (tk+1)⟩) (y:=⟨some ⟨g,0,none⟩,yl.length,yc,yl⟩) ((Y6 S2.T).lt HL4.o.1.sto) hW hn8 HSB2.o.2 (HFR.o W (HOY4.o.below hW)) (fun q hq=> .inl hq)) (Ys S2.T)
     rw[HSB2.o.1]at this
     exact this⟩
    have hwi:IntKind.i64.wrap ((tk:Int)+1)=(tk:Int)+1:=IntWalk.i64_in _ ⟨by omega,by omega⟩
    clear hs lt2 d0 x0 x1 x2 x3 lx hb11
    go_upto_region 7 with fail
    go_cut [] from 50 to 63 (fun wx=>Sc (Q8 (Q1 S2) (Q1 (S2.saved n ⟨some ⟨g,0,none⟩,tk+1,yc,yl.take (tk+1)⟩)) w4 wx))
    case first=>
     go_region
     all_goals
      go_wp2_with fail
      go_meet
      case rel=>exact⟨by first|with_reducible exact HSV.o _ (Below.refl _ _)|with_reducible exact HSV.o _ (Below.drew (Below.refl _ _))|with_reducible exact Part.drew (HSV.o _ (Below.refl _ _))|exact HSV.o _ (Below.refl _ _)⟩
    case rest=>
     obtain⟨w5,rfl⟩:∃w5,w5=wc:=⟨_,rfl⟩
     have HL5:=Q0 (Part.trans HL3.o (Part.trans HL4.o hcut.o))
     obtain⟨p0,p1,p2,p3,p4,p5,lp⟩:=Q7 (hcut.o.2.1.at HN11.o HU11.o)
     obtain⟨z0,z1,z2,y0,y1,y2,lz⟩:=Q7 (HBX.o w5 HL5.o.2.1)
     clear hs4 lt4 f4
     go_wp2
     refine bodyPost_ret (v:=X5 c) (by simp[results,Tryz.results62,go_sem,z0,z1,z2]) rfl ⟨⟨c,rfl⟩,S2.saved n ⟨some ⟨g,0,none⟩,tk+1,yc,yl.take (tk+1)⟩,?_,(HSB1.o.2.2.2.1.Qs HU2.o.kept).Qs (Ys S2.T),?_,?_⟩
     ·refine Part.boxed (A:=Q1 S) HZ0.o HB1.o HL5.o ?_
      have e1:=HBS.o
      have e2:=HB4.o
      repeat (first|with_reducible exact Kp.Vd|with_reducible refine Kp.drew ?_|with_reducible refine Kp.put ?_ ⟨by omega,by omega⟩ _)
     ·have h1:=HU2.o.cnt HC1.o
      refine⟨h1.Qu,h1.lk,h1.wt,h1.tx,h1.most,h1.vm,h1.sp,h1.small,fun x hx=> ?_,h1.md⟩
      rcases List.mem_or_eq_of_mem_set (show x∈S2.T.sav.set n _ from hx) with hx|rfl
      ·exact h1.sav x hx
      ·show(yl.take (tk+1)).length<=20
       have:=HC1.o.sav _ (List.mem_of_getElem? HY.o)
       have h2:yl.length<=20:=this
       rw[List.length_take];omega
     ·show Ok S2.P.pages (6*S2.P.bl) S2.abs
      rw[HU2.o.pages,HU2.o.bl]
      exact HU2.o.ok.from_
end Go.Proofs.YtoapihepdallbaaGreatDoor
