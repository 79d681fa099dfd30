import Derived.Test.YtoapihepdallbaaGreatDoorP34
namespace Go.Proofs.YtoapihepdallbaaGreatDoor
open Go.RowKit
theorem Q8y(w:World)(S:WG)(n k v:Nat)(id:Int)(h:Qh S w)(hn:n<8)(hc:Cnt S k v)(hok:OkS S.P.pages (6*S.P.bl) id 2 S.abs)(hid:id≠0)(hm:S.T.X1[n]? =some id):
  Calls Tryz.prog 108 #[.pointer (some ⟨S.T.sb,0,none⟩),.int .i64 n,Gn (got S.T.tx id),.int .i64 (got S.T.tx id).2.2.1] w fun e w'=>∃ce S',e=.returned (X5 ce)/\Q8 (Q1 S) (Q1 S') w w'/\Kept S.T S'.T/\Cnt S' k v/\Ok S'.P.pages (6*S'.P.bl) S'.abs:=by
 have hbl:=h.X2.plain.blk
 have hlive:¬6*S.P.bl<=S.P.L.length->Live S.abs S.T.tx/\∃x∈S.T.tx,x.1=id/\got S.T.tx id=x:=fun hf=>by
  obtain⟨hv,_⟩:=hok.live.resolve_left hf
  obtain⟨x,hx,hxi⟩:=Qy.1 ((hv.X1 n id hm).resolve_left hid)
  exact⟨hv,x,hx,hxi,by rw[<-hxi];exact(Z3 (show Qd S.T.tx from hok.Yc.Je) hx).2.2⟩
 refine(Q8b w S n (got S.T.tx id) (got S.T.tx id).2.2.1 h hn (by have:=hc.tx;have:=hc.small;omega) (by have:=hc.lk;have:=hc.small;omega) hc.wt2).mono ?_
 rintro e w' (⟨c,row',k',hc0,hk',he,hgf,hlv⟩|⟨S',he,hg1,hl1,hlv,hE⟩)
 ·refine⟨c,_,he,hlv,Ys S.T,hc.Xg (by have:=hc.sp;omega) _ _,?_⟩
  show Ok S.P.pages (6*S.P.bl) S.abs
  by_cases hf:6*S.P.bl<=S.P.L.length
  ·exact hok.full hf
  ·exfalso
   obtain⟨hv,x,hx,hxi,hg⟩:=hlive hf
   rw[hg]at hgf
   have hidr:=hok.Yc.ids x hx
   have hmo:=hok.Yc.most
   have hor:=(hv.last x hx).range
   have hlr:x.2.2.1<=(S.P.L.length:Int):=hor.2
   rcases hgf with h1|h1
   ·have:=Q4i (k:=6) (id:=x.1) (prev:=x.2.2.1) (.inr (.inr rfl)) hidr.1 (by omega) (by omega) (by omega)
    rw[h1]at this
    cases this
   ·exact hf h1
 ·refine⟨0,S',he,hlv,hE.kept,hE.cnt hc,?_⟩
  obtain⟨hv,x,hx,hxi,hg⟩:=hlive (by omega)
  rw[hE.abs,hE.pages,hE.bl,hg,hxi]
  exact hok.end_ hl1 (by omega) hx hxi hm
theorem X0y{tx:List TX}(hr:Qd tx){x:TX}(hx:x∈tx)(lsn:Int):upd (upd tx x.1 (fun y=>(y.1,lsn,x.2.2.2))) x.1 (fun y=>(2,y.2.1,y.2.2))=upd tx x.1 (fun y=>(2,lsn,y.2.2)):=by
 rw[Y6f hr]
 exact Di hr fun y hy hyx=>by
  have:=hr.Gb hy hx hyx
  subst this
  rfl
theorem Cnt.upv{S:WG}{k v v':Nat}(h:Cnt S k v)(hv:v<=v'):Cnt S k v':=⟨h.Qu,h.lk,h.wt,h.tx,h.most,Nat.le_trans h.vm hv,h.sp,h.small,h.sav,h.md⟩
set_option maxRecDepth 4000 in
set_option maxHeartbeats 8000000 in
theorem Q0s(w:World)(S:WG)(n k v hint:Nat)(h:Qh S w)(hn:n<S.T.Qu)(hc:Cnt S k v)(hv:v<=600000)(hok:Ok S.P.pages (6*S.P.bl) S.abs)(hh:hint<=1000000):
  Calls Tryz.prog 64 #[.pointer (some ⟨S.T.sb,0,none⟩),.int .i64 n,.int .i64 hint] w fun e w'=>(∃c,e=.returned (X5 c))/\∃S',Yn S S' k (v+400) w w':=by
 have HZ0:=Q0 h
 have HC:=Q0 hc
 have HOK:=Q0 hok
 have hn8:n<8:=by have:=hc.Qu;omega
 obtain⟨w1,hw1⟩:∃w1,w.alloc (.cells fz 41)=w1:=⟨_,rfl⟩
 have HB1:Sc (Below w.heap.size w w1):=⟨hw1▸Q3 (Below.refl _ _) _⟩
 have HBS:Sc (w1.heap.size=w.heap.size+1):=⟨by rw[<-hw1];simp⟩
 have HN1:Sc (w1.heap[w.heap.size]? =some (.cells fz 41 (0,0))):=⟨by rw[<-hw1];exact heap_alloc_new _ _⟩
 have HZ:Sc (Qh S w1):=⟨(Q1 S).bel h HB1.o⟩
 obtain⟨b4,hb4⟩:∃b,w.heap.size=b:=⟨_,rfl⟩
 have HB4:=Q0 hb4
 have HBX:Sc (∀W,Kp (Q1 S).U w1 W->W.heap[b4]? =some (.cells fz 41 (0,0))):=⟨fun W hk=>hk.at (by rw[<-HB4.o];exact HN1.o) (fun hu=>by have:=(Q1 S).lt HZ0.o _ hu;have:=HB4.o;omega)⟩
 have CM:=Oh w1 S n HZ.o hn hc.Qu hc.wt2 (by have:=hc.tx;have:=hc.small;omega)
 obtain⟨sb,hsb⟩:∃sb,S.T.sb=sb:=⟨_,rfl⟩
 have HSB:=Q0 hsb
 rw[hsb]at CM ⊢
 have CM:=Q0 CM
 have HV:=Q0 hv
 have HHINT:=Q0 hh
 clear h hn hc hok hsb hv hh
 go_enter Tryz.func64,Tryz.ntmps64
 go_wp2_with fail
 try rw[hw1]
 try rw[hb4]
 clear hw1 hb4
 refine CM.o.mono ?_
 rintro e w2 ⟨hm,wr1,hl1⟩
 have HL1:=Q0 hl1
 obtain⟨S1,hS1⟩:∃S1,S.Y1 n wr1=S1:=⟨_,rfl⟩
 have HS1:=Q0 hS1
 rw[hS1]at HL1
 have HC1:Sc (Cnt S1 k v):=⟨by rw[<-hS1];exact HC.o.Y1 n wr1⟩
 have HSB1:Sc (S1.T.sb=sb/\S1.abs=S.abs/\S1.P=S.P/\Kept S.T S1.T/\S1.T.tx=S.T.tx/\S1.T.X1=S.T.X1):=⟨by rw[<-hS1];exact⟨HSB.o,rfl,rfl,Ys S.T,rfl,rfl⟩⟩
 clear hl1 hS1
 rcases hm with ⟨hm0,rfl⟩|⟨id,hid0,hid,rfl⟩
 ·clear hm0
  go_upto_region 3 with fail
  have HL3:Sc (Q8 (Q1 S) (Q1 S1) w1 (w2.alloc (.cells #[.int .i64 0,.int .i64 0,.int .i64 0,.int .i64 0] 58))):=⟨Part.Qs HL1.o (Q3 (Below.refl _ _) _)⟩
  obtain⟨w3,hw3⟩:∃w3,w2.alloc (.cells #[.int .i64 0,.int .i64 0,.int .i64 0,.int .i64 0] 58)=w3:=⟨_,rfl⟩
  rw[hw3]at HL3 ⊢
  clear hw3
  go_wp2_with fail
  refine(Yb _ 113).mono ?_
  rintro e w9 ⟨rfl,hb9⟩
  have HL9:=Q0 (Part.Qs HL3.o hb9)
  obtain⟨z0,z1,z2,y0,y1,y2,lz⟩:=Q7 (HBX.o w9 HL9.o.2.1)
  clear hb9
  go_wp2
  refine bodyPost_ret (v:=X5 113) (by simp[results,Tryz.results64,go_sem,z0,z1,z2]) rfl ⟨⟨113,rfl⟩,S1,?_,HSB1.o.2.2.2.1,HC1.o.upv (by omega),by rw[HSB1.o.2.1,HSB1.o.2.2.1];exact HOK.o⟩
  refine Part.boxed (A:=Q1 S) HZ0.o HB1.o HL9.o ?_
  have e1:=HBS.o
  have e2:=HB4.o
  repeat (first|with_reducible exact Kp.Vd|with_reducible refine Kp.drew ?_|with_reducible refine Kp.put ?_ ⟨by omega,by omega⟩ _)
 ·have HID:=Q0 (And.intro hid0 hid)
  clear hid0 hid
  go_upto_region 4 with fail
  obtain⟨xt,hxt⟩:∃xt,got S.T.tx id=xt:=⟨_,rfl⟩
  have HXT:=Q0 hxt
  rw[hxt]
  have HL3:Sc (Q8 (Q1 S) (Q1 S1) w1 (w2.alloc (.cells #[.int .i64 xt.1,.int .i64 xt.2.1,.int .i64 xt.2.2.1,.int .i64 xt.2.2.2] 58))):=⟨Part.Qs HL1.o (Q3 (Below.refl _ _) _)⟩
  have HN3:=heap_alloc_new w2 (.cells #[.int .i64 xt.1,.int .i64 xt.2.1,.int .i64 xt.2.2.1,.int .i64 xt.2.2.2] 58)
  have HU5:¬(Q1 S1).U w2.heap.size:=fun hu=>by have:=(Q1 S1).lt HL1.o.1 _ hu;omega
  obtain⟨w3,hw3⟩:∃w3,w2.alloc (.cells #[.int .i64 xt.1,.int .i64 xt.2.1,.int .i64 xt.2.2.1,.int .i64 xt.2.2.2] 58)=w3:=⟨_,rfl⟩
  obtain⟨b5,hb5⟩:∃b5,w2.heap.size=b5:=⟨_,rfl⟩
  rw[hw3]at HL3 HN3 ⊢
  rw[hb5]at HN3 HU5
  try rw[hb5]
  have HN3:=Q0 HN3
  have HU5:Sc (¬(Q1 S1).U b5/\b5<w3.heap.size/\w1.heap.size<=b5):=⟨HU5,Q6 HN3.o,by rw[<-hb5];exact HL1.o.2.1.size⟩
  clear hw3 hxt hb5
  obtain⟨lb,hlb⟩:∃lb,S1.T.lb=lb:=⟨_,rfl⟩
  have HLB:=Q0 hlb
  have CSP:=Q0 (E9 w3 S1 1 HL3.o.1 (by omega) (by omega))
  obtain⟨_,_,_,_,_,_,c11,lt⟩:=HL3.o.1.sto.cells
  rw[HSB1.o.1]at c11 lt
  clear hlb
  go_wp2_with fail
  refine CSP.o.mono ?_
  rintro e w6 ⟨bo,k2,rfl,hk2,hl6⟩
  obtain⟨S2,hS2⟩:∃S2,S1.space S1.f k2=S2:=⟨_,rfl⟩
  have HS2:=Q0 hS2
  rw[hS2]at hl6
  have HL6:=Q0 (Part.trans HL3.o hl6)
  have HSB2:Sc (S2.T=S1.T/\S2.P=S.P/\S2.abs=S.abs):=⟨by rw[<-hS2];exact⟨rfl,HSB1.o.2.2.1,HSB1.o.2.1⟩⟩
  have HC2:Sc (Cnt S2 k v):=⟨by rw[<-hS2];exact⟨HC1.o.Qu,HC1.o.lk,HC1.o.wt,HC1.o.tx,HC1.o.most,HC1.o.vm,by have:=HC1.o.sp;show S1.f+k2<=400;omega,HC1.o.small,HC1.o.sav,HC1.o.md⟩⟩
  have HN6:Sc (w6.heap[b5]? =some (.cells #[.int .i64 xt.1,.int .i64 xt.2.1,.int .i64 xt.2.2.1,.int .i64 xt.2.2.2] 58 (0,0))):=⟨hl6.2.1.at HN3.o HU5.o.1⟩
  have HU6:Sc (¬(Q1 S2).U b5):=⟨fun hu=>(hl6.2.2 _ hu).elim HU5.o.1 (fun hn=>by have:=HU5.o.2.1;omega)⟩
  obtain⟨_,_,_,c5,_,_,_,lt6⟩:=HL6.o.1.sto.cells
  rw[HSB2.o.1,HSB1.o.1]at c5 lt6
  rw[HLB.o]at c5
  have CAP:Sc (∀X,Below w6.heap.size w6 X->Calls Tryz.prog 26 #[.pointer (some ⟨lb,0,none⟩),.agg #[.int .i64 5,.int .i64 xt.1,.int .i64 0,.int .i64 xt.2.2.1,.int .i64 0,.int .i64 0,.bool false,.bool false,.int .i64 0,.int .i64 0]] X fun e w'=>∃a c:Int,e=.returned (.tuple #[.int .i64 a,.int .i64 c])/\Q0w S2 (Q0m xt.1 xt.2.2.1) a c w6 w'):=⟨fun X hX=>by
   have:=O0 w6 X S2 (Q0m xt.1 xt.2.2.1) HL6.o.1 hX
   rw[HSB2.o.1,HLB.o]at this
   exact this⟩
  obtain⟨x0,x1,x2,x3,_,_,_,_,lx⟩:=Qz HN6.o
  have HR:Sc (Below w6.heap.size w6 w6):=⟨Below.refl _ _⟩
  clear hl6 hS2 hk2 c11 lt
  go_upto_region 5 with fail
  go_cut [9,10] from 27 to 39 (fun s9 s10 wx=>∃a c,s9=.int .i64 a/\s10=.int .i64 c/\Sc (Q0w S2 (Q0m xt.1 xt.2.2.1) a c w6 wx))
  case first=>
   go_region_law
    (first
     |(go_simp;go_at_call 26;go_loud (refine(CAP.o _ (by first|with_reducible exact HR.o|with_reducible exact Below.drew HR.o)).mono ?_;rintro e w7 ⟨a7,e7,rfl,ha7⟩;have HA7:=Q0 ha7;clear ha7)))
   all_goals
    go_wp2_with fail
    go_meet
    case rel=>exact⟨_,_,rfl,rfl,HA7⟩
  case rest=>
   obtain⟨a7,e7,rfl,rfl,HA7⟩:=hcut
   obtain⟨w7,rfl⟩:∃w7,w7=wc:=⟨_,rfl⟩
   clear c5 lt6 x0 x1 x2 x3 lx
   rcases HA7.o with ⟨hgl,rfl,rfl,row7,hl7⟩|⟨hgl,rfl,hc0,row7,hl7⟩
   ·have HGL:=Q0 hgl
    obtain⟨S3,hS3⟩:∃S3,S2.Xg row7 (S2.P.L++[Q0m xt.1 xt.2.2.1])=S3:=⟨_,rfl⟩
    have HS3:=Q0 hS3
    rw[hS3]at hl7
    have HL7:=Q0 (Part.trans HL6.o hl7)
    have HT3:Sc (S3.T=S1.T/\S3.P.D.vm=S.P.D.vm/\S3.P.L=S.P.L++[Q0m xt.1 xt.2.2.1]/\S3.T.sb=sb):=⟨by rw[<-hS3];exact⟨HSB2.o.1,by show S2.P.D.vm=_;rw[HSB2.o.2.1],by show S2.P.L++_=_;rw[HSB2.o.2.1],by show S2.T.sb=_;rw[HSB2.o.1];exact HSB1.o.1⟩⟩
    have HX:Sc (xt∈S.T.tx/\S.T.X1[n]? =some xt.1/\S.P.L.length<6*S.P.bl/\xt.1≠0):=⟨by
     have hl:=hgl.2
     rw[HSB2.o.2.1]at hl
     obtain⟨hv1,_⟩:=HOK.o.live.resolve_left (by show ¬(6*S.P.bl<=S.P.L.length);omega)
     have hh:has S.T.tx id=true:=(hv1.X1 n id HID.o.2).resolve_left HID.o.1
     obtain⟨x,hx,he⟩:=Qy.1 hh
     have hg:=(Z3 (show Qd S.T.tx from HOK.o.Yc.Je) hx).2.2
     rw[he,HXT.o]at hg
     subst hg
     exact⟨hx,by rw[he];exact HID.o.2,hl,by rw[he];exact HID.o.1⟩⟩
    obtain⟨lsn,hlsn⟩:∃lsn,(S2.P.L.length:Int)+1=lsn:=⟨_,rfl⟩
    have HLSN:Sc ((S.P.L.length:Int)+1=lsn):=⟨by rw[<-hlsn,HSB2.o.2.1]⟩
    rw[hlsn]
    have HN7:=Q0 (hl7.2.1.at HN6.o HU6.o)
    have HU7:Sc (¬(Q1 S3).U b5):=⟨fun hu=>(hl7.2.2 _ hu).elim HU6.o (fun hn=>by have:=Q6 HN6.o;omega)⟩
    have HTL:Sc (S3.T.tx.length<=1000000/\S3.T.tx=S.T.tx):=⟨by rw[HT3.o.1,HSB1.o.2.2.2.2.1];have:=HC.o.tx;have:=HC.o.small;exact⟨by omega,rfl⟩⟩
    have CN:Sc (∀X,Below w7.heap.size w7 X->Calls Tryz.prog 85 #[.pointer (some ⟨sb,9,none⟩),.int .i64 xt.1,.int .i64 lsn,.int .i64 xt.2.2.2] X fun e w'=>e=.returned (.bool (has S.T.tx xt.1))/\∃tr',Q8 (Q1 S3) (Q1 (S3.trans tr' (upd S.T.tx xt.1 (fun y=>(y.1,lsn,xt.2.2.2))) S3.T.most)) w7 w'):=⟨fun X hX=>by
     have h1:=D0 X S3 xt.1 lsn xt.2.2.2 ((Q1 S3).bel HL7.o.1 hX) HTL.o.1
     rw[HT3.o.2.2.2,HTL.o.2]at h1
     refine h1.mono ?_
     rintro e w' ⟨he,tr',hl⟩
     exact⟨he,tr',Part.from_ hl hX⟩⟩
    obtain⟨x0,x1,x2,x3,_,_,_,_,lx⟩:=Qz HN7.o
    have HR:Sc (Below w7.heap.size w7 w7):=⟨Below.refl _ _⟩
    clear hl7 hS3 hgl hlsn
    go_upto_region 8 with fail
    go_cut [] from 44 to 52 (fun wx=>∃tr',Sc (Q8 (Q1 S3) (Q1 (S3.trans tr' (upd S.T.tx xt.1 (fun y=>(y.1,lsn,xt.2.2.2))) S3.T.most)) w7 wx))
    case first=>
     go_region_law
      (first
       |(go_simp;go_at_call 85;go_loud (refine(CN.o _ (by first|with_reducible exact HR.o|with_reducible exact Below.drew HR.o)).mono ?_;rintro e w8 ⟨rfl,tr8,hl8⟩;have HA8:=Q0 hl8;clear hl8)))
     all_goals
      go_wp2_with fail
      go_meet
      case rel=>exact⟨_,HA8⟩
    case rest=>
     obtain⟨tr8,HA8⟩:=hcut
     obtain⟨w8,rfl⟩:∃w8,w8=wc:=⟨_,rfl⟩
     clear x0 x1 x2 x3 lx
     obtain⟨S4,hS4⟩:∃S4,S3.trans tr8 (upd S.T.tx xt.1 (fun y=>(y.1,lsn,xt.2.2.2))) S3.T.most=S4:=⟨_,rfl⟩
     have HS4:=Q0 hS4
     have hl8:=HA8.o
     rw[hS4]at hl8
     have HL8:=Q0 (Part.trans HL7.o hl8)
     have HN8:=Q0 (hl8.2.1.at HN7.o HU7.o)
     have HU8:Sc (¬(Q1 S4).U b5):=⟨fun hu=>(hl8.2.2 _ hu).elim HU7.o (fun hn=>by have:=Q6 HN7.o;omega)⟩
     have HT4:Sc (S4.T.sb=sb/\S4.T.tx=upd S.T.tx xt.1 (fun y=>(y.1,lsn,xt.2.2.2))/\S4.T.tx.length<=1000000):=⟨by rw[<-hS4];exact⟨HT3.o.2.2.2,rfl,by show(upd S.T.tx xt.1 (fun y=>(y.1,lsn,xt.2.2.2))).length<=1000000;rw[Jv];have:=HC.o.tx;have:=HC.o.small;omega⟩⟩
     have CST:Sc (∀X,Below w8.heap.size w8 X->Calls Tryz.prog 83 #[.pointer (some ⟨sb,9,none⟩),.int .i64 xt.1,.int .i64 2] X fun e w'=>e=.returned (.bool (has S4.T.tx xt.1))/\∃tr',Q8 (Q1 S4) (Q1 (S4.trans tr' (upd S4.T.tx xt.1 (fun y=>(2,y.2.1,y.2.2))) S4.T.most)) w8 w'):=⟨fun X hX=>by
      have h1:=X0l X S4 xt.1 2 ((Q1 S4).bel HL8.o.1 hX) HT4.o.2.2
      rw[HT4.o.1]at h1
      refine h1.mono ?_
      rintro e w' ⟨he,tr',hl⟩
      exact⟨he,tr',Part.from_ hl hX⟩⟩
     obtain⟨x0,x1,x2,x3,_,_,_,_,lx⟩:=Qz HN8.o
     have HR:Sc (Below w8.heap.size w8 w8):=⟨Below.refl _ _⟩
     clear hS4 hl8
     go_upto_region 9 with fail
     go_cut [] from 53 to 58 (fun wx=>∃tr',Sc (Q8 (Q1 S4) (Q1 (S4.trans tr' (upd S4.T.tx xt.1 (fun y=>(2,y.2.1,y.2.2))) S4.T.most)) w8 wx))
     case first=>
      go_region_law
       (first
        |(go_simp;go_at_call 83;go_loud (refine(CST.o _ (by first|with_reducible exact HR.o|with_reducible exact Below.drew HR.o)).mono ?_;rintro e w9 ⟨rfl,tr9,hl9⟩;have HA9:=Q0 hl9;clear hl9)))
      all_goals
       go_wp2_with fail
       go_meet
       case rel=>exact⟨_,HA9⟩
     case rest=>
      obtain⟨tr9,HA9⟩:=hcut
      obtain⟨w9,rfl⟩:∃w9,w9=wc:=⟨_,rfl⟩
      clear x0 x1 x2 x3 lx
      obtain⟨S5,hS5⟩:∃S5,S4.trans tr9 (upd S4.T.tx xt.1 (fun y=>(2,y.2.1,y.2.2))) S4.T.most=S5:=⟨_,rfl⟩
      have hl9:=HA9.o
      rw[hS5]at hl9
      have HL9:=Q0 (Part.trans HL8.o hl9)
      have HN9:=Q0 (hl9.2.1.at HN8.o HU8.o)
      have HU9:Sc (¬(Q1 S5).U b5):=⟨fun hu=>(hl9.2.2 _ hu).elim HU8.o (fun hn=>by have:=Q6 HN8.o;omega)⟩
      have HT5:Sc (S5.T.sb=sb/\S5.P.pages=S.P.pages/\S5.P.bl=S.P.bl/\S5.abs=S.abs.X0x xt/\Cnt S5 k v/\Kept S.T S5.T):=⟨by
       have hP:S3.P={S.P with Js:=row7,L:=S.P.L++[Q0m xt.1 xt.2.2.1]}:=by rw[<-HS3.o];show({S2.P with Js:=row7,L:=S2.P.L++[Q0m xt.1 xt.2.2.1]}:X9)=_;rw[HSB2.o.2.1]
       have hT:=HT3.o.1
       have hA:S1.abs=S.abs:=HSB1.o.2.1
       have e5:S1.T.most=S.T.most:=congrArg Abs.most hA
       have e6:S1.T.lk=S.T.lk:=congrArg Abs.lk hA
       have e7:S1.T.X1=S.T.X1:=congrArg Abs.X1 hA
       have e8:S1.T.ck=S.T.ck:=congrArg Abs.ck hA
       have htx:upd S4.T.tx xt.1 (fun y=>(2,y.2.1,y.2.2))=upd S.T.tx xt.1 (fun y=>(2,lsn,y.2.2)):=by
        rw[HT4.o.2.1]
        exact X0y (show Qd S.T.tx from HOK.o.Yc.Je) HX.o.1 lsn
       rw[htx]at hS5
       rw[<-hS5,<-HS4.o]
       have hk:Kept S.T S3.T:=by rw[hT];exact HSB1.o.2.2.2.1
       refine⟨HT3.o.2.2.2,by show S3.P.pages=_;rw[hP],by show S3.P.bl=_;rw[hP],?_,?_,hk.Qs (Ys S3.T)⟩
       ·show(⟨S3.P.L,upd S.T.tx xt.1 (fun y=>(2,lsn,y.2.2)),S3.T.most,S3.T.lk,S3.T.X1,S3.P.pv,S3.P.O.tab,S3.T.ck⟩:Abs)=_
        rw[hP,hT,e5,e6,e7,e8,<-HLSN.o]
        rfl
       ·have h2:=HC2.o
        have hT2:=HSB2.o.1
        have hP2:=HSB2.o.2.1
        have hfk:S3.f=S2.f/\S3.k=S2.k:=by rw[<-HS3.o];exact⟨rfl,rfl⟩
        refine⟨?_,?_,?_,?_,?_,?_,?_,h2.small,?_,?_⟩
        ·show S3.T.Qu<=8;rw[hT,<-hT2];exact h2.Qu
        ·show S3.T.lk.length<=k;rw[hT,<-hT2];exact h2.lk
        ·show S3.T.wt.length<=k*k;rw[hT,<-hT2];exact h2.wt
        ·show(upd S.T.tx xt.1 (fun y=>(2,lsn,y.2.2))).length<=k;rw[Jv];exact HC.o.tx
        ·show S3.T.most<=k;rw[hT,<-hT2];exact h2.most
        ·show S3.P.D.vm<=v;rw[HT3.o.2.1];exact HC.o.vm
        ·show S3.f+S3.k<=400;rw[hfk.1,hfk.2];exact h2.sp
        ·show ∀x∈S3.T.sav,x.l.length<=20;rw[hT,<-hT2];exact h2.sav
        ·show ∀h∈S3.T.lk,h.2.2<=2;rw[hT,<-hT2];exact h2.md⟩
      have HOK5:Sc (OkS S5.P.pages (6*S5.P.bl) xt.1 2 S5.abs):=⟨by
       rw[HT5.o.2.1,HT5.o.2.2.1,HT5.o.2.2.2.1]
       exact HOK.o.Y6x HX.o.2.2.1 HX.o.1 (by have:=HGL.o.1;exact this)⟩
      have CUN:Sc (Calls Tryz.prog 104 #[.pointer (some ⟨sb,0,none⟩),.int .i64 xt.1,.int .i64 0,.int .i64 hint] w9 fun e w'=>∃c S',e=.returned (X5 c)/\Q8 (Q1 S5) (Q1 S') w9 w'/\Q8x S5 S' v xt.1 2 0 c):=⟨by
       have:=Q5t w9 S5 k v hint xt.1 2 0 HL9.o.1 HT5.o.2.2.2.2.1 HV.o HOK5.o (by omega) HHINT.o
       rw[HT5.o.1]at this
       exact this⟩
      obtain⟨x0,x1,x2,x3,_,_,_,_,lx⟩:=Qz HN9.o
      clear hS5 hl9
      go_wp2_with fail
      refine CUN.o.mono ?_
      rintro e w10 ⟨cu,S6,rfl,hl10,hund⟩
      have HUN:=Q0 hund
      have HL10:=Q0 (Part.trans HL9.o hl10)
      have HN10:=Q0 (hl10.2.1.at HN9.o HU9.o)
      have HU10:Sc (¬(Q1 S6).U b5):=⟨fun hu=>(hl10.2.2 _ hu).elim HU9.o (fun hn=>by have:=Q6 HN9.o;omega)⟩
      clear hund hl10 x0 x1 x2 x3 lx
      go_upto_region 11 with fail
      obtain⟨w11,hw11⟩:∃w11,w10.alloc (.cells #[.int .i64 cu,.bool false,.int .i64 0] 41)=w11:=⟨_,rfl⟩
      obtain⟨b11,hb11⟩:∃b11,w10.heap.size=b11:=⟨_,rfl⟩
      have HB11:Sc (Below w10.heap.size w10 w11):=⟨by rw[<-hw11];exact Q3 (Below.refl _ _) _⟩
      have HL11:Sc (Q8 (Q1 S) (Q1 S6) w1 w11):=⟨Part.Qs HL10.o HB11.o⟩
      have HN11:Sc (w11.heap[b11]? =some (.cells #[.int .i64 cu,.bool false,.int .i64 0] 41 (0,0))):=⟨by rw[<-hw11,<-hb11];exact heap_alloc_new _ _⟩
      rw[hw11]
      try rw[hb11]
      clear hw11 hb11
      obtain⟨p0,p1,p2,p3,p4,p5,lp⟩:=Q7 HN11.o
      have HD6:Sc (S6.P.pages=S5.P.pages/\S6.P.bl=S5.P.bl/\Kept S.T S6.T/\Cnt S6 k (v+400)):=⟨HUN.o.1.pages,HUN.o.1.bl,HT5.o.2.2.2.2.2.Qs HUN.o.1.kept,HUN.o.1.cnt HT5.o.2.2.2.2.1⟩
      by_cases hcu:cu=0
      ·subst hcu
       go_wp2_with fail
       refine(Yf w11).mono ?_
       rintro e w12 ⟨rfl,hb12⟩
       have HB12:=Q0 (Q5 HB11.o hb12)
       have HL12:=Q0 (Part.Qs HL11.o hb12)
       have HN12:=Q0 (up HB12.o HN10.o)
       have hsb6:S6.T.sb=sb:=by have h1:=HD6.o.2.2.1.sb;rw[h1];exact HSB.o
       have HSB6:=Q0 hsb6
       obtain⟨xn,hxn⟩:∃xn,got S6.T.tx xt.1=xn:=⟨_,rfl⟩
       have HXN:=Q0 hxn
       have CGT:Sc (∀X,Below w12.heap.size w12 X->Calls Tryz.prog 82 #[.pointer (some ⟨sb,9,none⟩),.int .i64 xt.1] X fun e w'=>e=.returned (.tuple #[Gn xn,.bool (has S6.T.tx xt.1)])/\Below w12.heap.size w12 w'):=⟨fun X hX=>by
        have h1:=Gv X S6 xt.1 ((Q1 S6).bel HL12.o.1 hX) (by have:=HD6.o.2.2.2.tx;have:=HD6.o.2.2.2.small;omega)
        rw[hsb6,hxn]at h1
        refine h1.mono ?_
        rintro e w' ⟨he,hb⟩
        exact⟨he,Q5 hX hb⟩⟩
       obtain⟨x0,x1,x2,x3,t0,t1,t2,t3,lx⟩:=Qz HN12.o
       have HR:Sc (Below w12.heap.size w12 w12):=⟨Below.refl _ _⟩
       clear hb12 hsb6 hxn p0 p1 p2 p3 p4 p5 lp
       go_upto_region 13 with fail
       go_cut [] from 67 to 75 (fun wx=>Sc (Q8 (Q1 S) (Q1 S6) w1 wx)/\Sc (wx.heap[b5]? =some (.cells #[.int .i64 xn.1,.int .i64 xn.2.1,.int .i64 xn.2.2.1,.int .i64 xn.2.2.2] 58 (0,0))))
       case first=>
        go_region_law
         (first
          |(go_simp;go_at_call 82;go_loud (refine(CGT.o _ (by first|with_reducible exact HR.o|with_reducible exact Below.drew HR.o)).mono ?_;rintro e w13 ⟨rfl,hb13⟩;have HB13:=Q0 hb13;obtain⟨x0,x1,x2,x3,t0,t1,t2,t3,lx⟩:=Qz (up hb13 HN12.o);clear hb13)))
        all_goals
         go_wp2_with fail
         go_meet
         case rel=>exact⟨⟨Part.Y9 (Part.Y9 (Part.Y9 (Part.Y9 (Part.Qs HL12.o HB13.o) HU5.o.2.2 HU10.o) HU5.o.2.2 HU10.o) HU5.o.2.2 HU10.o) HU5.o.2.2 HU10.o⟩,⟨Ou (up HB13.o HN12.o)⟩⟩
       case rest=>
        obtain⟨HL14,HN14⟩:=hcut
        obtain⟨w14,rfl⟩:∃w14,w14=wc:=⟨_,rfl⟩
        clear x0 x1 x2 x3 t0 t1 t2 t3 lx
        obtain⟨x0,x1,x2,x3,t0,t1,t2,t3,lx⟩:=Qz HN14.o
        have CE:Sc (Calls Tryz.prog 108 #[.pointer (some ⟨sb,0,none⟩),.int .i64 n,.agg #[.int .i64 xn.1,.int .i64 xn.2.1,.int .i64 xn.2.2.1,.int .i64 xn.2.2.2],.int .i64 xn.2.2.1] w14 fun e w'=>∃ce S',e=.returned (X5 ce)/\Q8 (Q1 S6) (Q1 S') w14 w'/\Kept S6.T S'.T/\Cnt S' k (v+400)/\Ok S'.P.pages (6*S'.P.bl) S'.abs):=⟨by
         have hm:S6.T.X1[n]? =some xt.1:=by
          rw[HUN.o.1.X1]
          have:S5.T.X1=S.T.X1:=congrArg Abs.X1 HT5.o.2.2.2.1
          rw[this]
          exact HX.o.2.1
         have:=Q8y w14 S6 n k (v+400) xt.1 HL14.o.1 hn8 HD6.o.2.2.2 (by rw[HD6.o.1,HD6.o.2.1];exact HUN.o.1.ok) HX.o.2.2.2 hm
         rw[HSB6.o,HXN.o]at this
         exact this⟩
        go_wp2_with fail
        refine CE.o.mono ?_
        rintro e w15 ⟨ce,S7,rfl,hl15,hk15,hc15,ho15⟩
        have HL15:=Q0 (Part.trans HL14.o hl15)
        have HE15:=Q0 (And.intro hk15 (And.intro hc15 ho15))
        obtain⟨z0,z1,z2,y0,y1,y2,lz⟩:=Q7 (HBX.o w15 HL15.o.2.1)
        clear hl15 hk15 hc15 ho15 x0 x1 x2 x3 t0 t1 t2 t3 lx
        go_wp2
        refine bodyPost_ret (v:=X5 ce) (by simp[results,Tryz.results64,go_sem,z0,z1,z2]) rfl ⟨⟨ce,rfl⟩,S7,?_,HD6.o.2.2.1.Qs HE15.o.1,HE15.o.2.1,HE15.o.2.2⟩
        refine Part.boxed (A:=Q1 S) HZ0.o HB1.o HL15.o ?_
        have e1:=HBS.o
        have e2:=HB4.o
        repeat (first|with_reducible exact Kp.Vd|with_reducible refine Kp.drew ?_|with_reducible refine Kp.put ?_ ⟨by omega,by omega⟩ _)
      ·have HCU:=Q0 hcu
       have HFULL:Sc (6*S5.P.bl<=S6.P.L.length):=⟨by
        rcases HUN.o.2 with ⟨h1,_⟩|⟨_,h1⟩
        ·exact absurd h1 hcu
        ·exact h1.resolve_right (fun hn=>hn rfl)⟩
       clear hcu
       go_wp2_with fail
       refine(Z0 w11 cu HCU.o).mono ?_
       rintro e w12 ⟨rfl,hb12⟩
       have HL12:=Q0 (Part.Qs HL11.o hb12)
       have HN12:=Q0 (up hb12 HN11.o)
       clear p0 p1 p2 p3 p4 p5 lp hb12
       obtain⟨p0,p1,p2,p3,p4,p5,lp⟩:=Q7 HN12.o
       obtain⟨z0,z1,z2,y0,y1,y2,lz⟩:=Q7 (HBX.o w12 HL12.o.2.1)
       go_wp2
       refine bodyPost_ret (v:=X5 cu) (by simp[results,Tryz.results64,go_sem,z0,z1,z2]) rfl ⟨⟨cu,rfl⟩,S6,?_,HD6.o.2.2.1,HD6.o.2.2.2,?_⟩
       ·refine Part.boxed (A:=Q1 S) HZ0.o HB1.o HL12.o ?_
        have e1:=HBS.o
        have e2:=HB4.o
        repeat (first|with_reducible exact Kp.Vd|with_reducible refine Kp.drew ?_|with_reducible refine Kp.put ?_ ⟨by omega,by omega⟩ _)
       ·rw[HD6.o.1,HD6.o.2.1]
        exact HUN.o.1.ok.full HFULL.o
   ·have e0:(e7 !=0)=true:=by simp[hc0]
    have HL7:=Q0 (Part.trans HL6.o hl7)
    clear hl7 hgl hc0
    go_wp2_with fail
    refine(Yb _ e7).mono ?_
    rintro e w8 ⟨rfl,hb8⟩
    have HL8:=Q0 (Part.Qs HL7.o hb8)
    obtain⟨z0,z1,z2,y0,y1,y2,lz⟩:=Q7 (HBX.o w8 HL8.o.2.1)
    clear hb8
    go_wp2
    refine bodyPost_ret (v:=X5 e7) (by simp[results,Tryz.results64,go_sem,z0,z1,z2]) rfl ⟨⟨e7,rfl⟩,S2.Xg row7 S2.P.L,?_,?_,?_,?_⟩
    ·refine Part.boxed (A:=Q1 S) HZ0.o HB1.o HL8.o ?_
     have e1:=HBS.o
     have e2:=HB4.o
     repeat (first|with_reducible exact Kp.Vd|with_reducible refine Kp.drew ?_|with_reducible refine Kp.put ?_ ⟨by omega,by omega⟩ _)
    ·show Kept S.T S2.T
     rw[HSB2.o.1];exact HSB1.o.2.2.2.1
    ·exact Cnt.upv ⟨HC2.o.Qu,HC2.o.lk,HC2.o.wt,HC2.o.tx,HC2.o.most,HC2.o.vm,HC2.o.sp,HC2.o.small,HC2.o.sav,HC2.o.md⟩ (by omega)
    ·show Ok S2.P.pages (6*S2.P.bl) S2.abs
     rw[HSB2.o.2.2,HSB2.o.2.1];exact HOK.o
end Go.Proofs.YtoapihepdallbaaGreatDoor
