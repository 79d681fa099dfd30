import Derived.Test.YtoapihepdallbaaGreatDoorP09
namespace Go.Proofs.YtoapihepdallbaaGreatDoor
open Go.RowKit
section
abbrev X4d:Array Value:= #[.int .i64 0,.int .i64 0,.int .i64 0,.int .i64 0]
theorem X7x{w:World}{b:Nat}{t:TypeId}{x:TX}(h:w.heap[b]? =some (.cells X4d t (0,0))):
  ((((w.setCell ⟨b,0,none⟩ (.int .i64 x.1)).setCell ⟨b,1,none⟩ (.int .i64 x.2.1)).setCell ⟨b,2,none⟩ (.int .i64 x.2.2.1)).setCell ⟨b,3,none⟩ (.int .i64 x.2.2.2)).heap[b]? =some (.cells (Qg x).toArray t (0,0)):=by
 rw[Qn (Qn (Qn (Qn h 0 _) 1 _) 2 _) 3 _];rfl
theorem Q7v{w0 w:World}{b:Nat}{u0 u1 u2 u3:Value}(h:Below w0.heap.size w0 w)(hb:w0.heap.size<=b):Below w0.heap.size w0 ((((w.setCell ⟨b,0,none⟩ u0).setCell ⟨b,1,none⟩ u1).setCell ⟨b,2,none⟩ u2).setCell ⟨b,3,none⟩ u3):=
 (((h.setCell hb _).setCell hb _).setCell hb _).setCell hb _
theorem Oe{w1:World}{b:Nat}{x:TX}{t:TypeId}(h:w1.heap[b]? =some (.cells (Qg x).toArray t (0,0))):
  w1.cell? ⟨b,0,none⟩=some (.int .i64 x.1)/\w1.cell? ⟨b,1,none⟩=some (.int .i64 x.2.1)/\w1.cell? ⟨b,2,none⟩=some (.int .i64 x.2.2.1)/\w1.cell? ⟨b,3,none⟩=some (.int .i64 x.2.2.2):=by simp[World.cell?,h]
theorem Yl.kp{B fb lb:Nat}{w w':World}{rt rd:Option Nat}{s:An}{S:Nat->Prop}(h:Yl B w fb lb rt rd s)(k:Kp S w w')(h1:¬S fb)(h2:∀q,rt=some q->¬S q)(h3:∀q,rd=some q->¬S q):Yl B w' fb lb rt rd s:=by
 obtain⟨⟨vt,vd,e1,e2,hc,e3,e4⟩,a,b,c,d,e,f,g,i⟩:=h
 exact⟨⟨vt,vd,e1,e2,k.at hc h1,e3.kp k (fun q hq=>h2 q (by rw[<-e1];exact hq)),e4.kp k (fun q hq=>h3 q (by rw[<-e2];exact hq))⟩,a,b,c,d,e,f,g,i⟩
theorem Xt.Um{B fb lb b:Nat}{w w':World}{rt rd:Option Nat}{s':An}(h:Xt B fb lb rt rd s' w w')(hb:b<w.heap.size)(hn:b≠fb/\rt≠some b/\rd≠some b):
  ∃rt' rd',Yl B w' fb lb rt' rd' s'/\Kp (fun q=>q=fb\/some q=rt\/some q=rd) w w'/\(rt'=rt\/∃q,rt'=some q/\w.heap.size<=q)/\(rd'=rd\/∃q,rd'=some q/\w.heap.size<=q)/\b≠fb/\rt'≠some b/\rd'≠some b:=by
 obtain⟨rt',rd',hf,hk,ht,hd⟩:=h
 refine⟨rt',rd',hf,hk,ht,hd,hn.1,fun he=> ?_,fun he=> ?_⟩
 ·rcases ht with h|⟨q,h,hq⟩
  ·exact hn.2.1 (h.symm.trans he)
  ·rw[h]at he;injection he with he;omega
 ·rcases hd with h|⟨q,h,hq⟩
  ·exact hn.2.2 (h.symm.trans he)
  ·rw[h]at he;injection he with he;omega
variable{B fb lb:Nat}{rt rd:Option Nat}{s:An}
set_option maxRecDepth 4000 in
set_option maxHeartbeats 4000000 in
theorem Y4o(w:World)(lsn:Int)(r:Q9)(h:Yl B w fb lb rt rd s)(ht:s.t.length<=1000000)(hd:s.d.length<=1000000):
  Calls Tryz.prog 76 #[.pointer (some ⟨fb,0,none⟩),.int .i64 lsn,Yg r] w fun e w'=>e=.returned (.bool (Yu lsn r s).1)/\Xt B fb lb rt rd (Yu lsn r s).2 w w':=by
 obtain⟨ok,hok⟩:∃ok,(Yu lsn r s).1=ok:=⟨_,rfl⟩
 obtain⟨s',hs'⟩:∃s',(Yu lsn r s).2=s':=⟨_,rfl⟩
 rw[hok,hs']
 have HOK:=Q0 (And.intro hok hs')
 have HB1:Sc (Below w.heap.size w (w.alloc (.cells (Qe r) 49))):=⟨Q3 (Below.refl _ _) _⟩
 have HF0:=Q0 h
 have HF1:=Q0 (h.bel HB1.o)
 have HFR:=Q0 h.fresh
 have HZ1:=Q0 (heap_alloc_new w (.cells (Qe r) 49))
 obtain⟨w1,hw1⟩:∃w1,w.alloc (.cells (Qe r) 49)=w1:=⟨_,rfl⟩
 obtain⟨b1,hb1⟩:∃b,w.heap.size=b:=⟨_,rfl⟩
 rw[hw1]at HB1 HF1 HZ1
 rw[hb1]at HZ1 HFR
 obtain⟨c0,c1,c2,c3,c4,c5,c6,c7,c8,c9⟩:=Qb HZ1.o
 have lz:=Q6 HZ1.o
 obtain⟨x,hx⟩:∃x,got s.t r.txn=x:=⟨_,rfl⟩
 obtain⟨hs,hhs⟩:∃hs,has s.t r.txn=hs:=⟨_,rfl⟩
 have HX:=Q0 (And.intro hx hhs)
 clear hok hs' h hx hhs
 go_enter Tryz.func76,Tryz.ntmps76
 go_upto_region 1 with fail
 clear hw1 hb1
 go_cut [7,8] from 10 to 18 (fun s7 s8 wx=>∃b7,s7=.pointer (some ⟨b7,0,none⟩)/\s8=.bool hs/\w1.heap.size<=b7/\Sc (wx.heap[b7]? =some (.cells (Qg x).toArray 58 (0,0)))/\Sc (Below w1.heap.size w1 wx))
 case first=>
  go_region_law (first|(go_simp;go_at_call 124;refine(Y7d _ r.txn (by first|with_reducible exact HF1.o.drew|exact(HF1.o.bel (Q3 (Below.refl _ _) _)).drew|exact(HF1.o.drew.bel (Q3 (Below.refl _ _) _))) ht).mono ?_;rw[HX.o.1,HX.o.2];rintro e w2 ⟨rfl,hb⟩;have HB2:Sc (Below w1.heap.size w1 w2):=⟨by first|exact(Below.refl w1.heap.size w1).drew.trans hb|exact((Below.refl w1.heap.size w1).alloc (Nat.le_refl _) _).drew.trans (hb.mono (by simp))|exact((Below.refl w1.heap.size w1).drew.alloc (Nat.le_refl _) _).trans (hb.mono (by simp))⟩;(first|(have hz:w2.heap[w1.heap.size]? =some (.cells X4d 58 (0,0)):=(hb.block _ (by simp)).trans (heap_alloc_new w1 (.cells X4d 58));obtain⟨q0,q1,q2,q3⟩:=Oe (x:=(0,0,0,0)) hz;have y0:=Q2 hz 0;have y1:=Q2 hz 1;have y2:=Q2 hz 2;have y3:=Q2 hz 3;have HZ2:=Q0 hz;clear hz)|skip);clear hb))
  all_goals
   go_wp2_with fail
   go_meet
   case rel=>first
    |exact⟨_,rfl,rfl,HB2.o.size,⟨heap_alloc_new w2 _⟩,⟨Q3 HB2.o _⟩⟩
    |exact⟨_,rfl,rfl,Nat.le_refl _,⟨X7x HZ2.o⟩,⟨Q7v HB2.o (Nat.le_refl _)⟩⟩
 case rest=>
  obtain⟨b7,rfl,rfl,hb7,HX7,HB7⟩:=hcut
  have HFC:=Q0 (HF1.o.bel HB7.o)
  have HZC:=Q0 (up HB7.o HZ1.o)
  have HBC:Sc (Below w.heap.size w wc):=⟨Q5 HB1.o HB7.o⟩
  have HR7:Sc (b7≠fb/\rt≠some b7/\rd≠some b7):=⟨by have:=HF1.o.lt;omega,fun he=>by have:=HF1.o.Gt.1 _ he;omega,fun he=>by have:=HF1.o.Gt.2 _ he;omega⟩
  have hne:b1≠b7:=by omega
  clear c0 c1 c2 c3 c4 c5 c6 c7 c8 c9 lz
  obtain⟨c0,c1,c2,c3,c4,c5,c6,c7,c8,c9⟩:=Qb HZC.o
  obtain⟨x0,x1,x2,x3⟩:=Oe HX7.o
  by_cases h1:r.kind=1
  ·have e1:(r.kind==1)=true:=by simp[h1]
   have HC:Sc (ok= !hs/\s'={s with t:=Qt s.t (r.txn,0,lsn,0),m:=max s.m r.txn}):=⟨by rw[<-HOK.o.1,<-HOK.o.2];unfold Yu;rw[if_pos h1,HX.o.2];exact⟨rfl,rfl⟩⟩
   clear h1
   go_wp2_with fail
   have CA:Calls Tryz.prog 121 #[.pointer (some ⟨fb,1,none⟩),.agg #[.int .i64 r.txn,.int .i64 0,.int .i64 lsn,.int .i64 0]] wc.drew fun e w2=>e=.returned (.tuple #[])/\Xt B fb lb rt rd {s with t:=Qt s.t (r.txn,0,lsn,0),m:=max s.m r.txn} wc w2:=(Q9k wc.drew (r.txn,0,lsn,0) HFC.o.drew ht).mono fun e w' ⟨he,hl⟩=>⟨he,hl.from_ (Below.refl wc.heap.size wc).drew⟩
   go_region_law (first|(go_simp;go_at_call 121;refine CA.mono ?_;rintro e w2 ⟨rfl,hl⟩;have HLF:=Q0 hl;clear hl))
   all_goals
    clear CA
    go_wp2
    go_ret
    exact⟨by rw[HC.o.1];rfl,by rw[HC.o.2];exact HLF.o.from_ HBC.o⟩
  ·have e1:(r.kind==1)=false:=Ql h1
   cases hs with
   |false=>
    have HC:Sc (ok=false/\s'=s):=⟨by rw[<-HOK.o.1,<-HOK.o.2];unfold Yu;rw[if_neg h1,if_pos (.inl HX.o.2)];exact⟨rfl,rfl⟩⟩
    clear h1
    go_wp2
    go_ret
    exact⟨by rw[HC.o.1];rfl,by rw[HC.o.2];exact Xt.same HF0.o HBC.o⟩
   |true=>
    by_cases hpv:r.prev=x.2.2.1
    ·have epv:(r.prev==x.2.2.1)=true:=by simp[hpv]
     have hno:¬(has s.t r.txn=false\/r.prev≠(got s.t r.txn).2.2.1):=by rw[HX.o.1,HX.o.2];simp[hpv]
     by_cases h6:r.kind=6
     ·have HC:Sc (ok=true/\s'={s with t:=X4 s.t r.txn}):=⟨by rw[<-HOK.o.1,<-HOK.o.2];unfold Yu;rw[if_neg h1,if_neg hno,if_pos h6];exact⟨rfl,rfl⟩⟩
      have y2:=Q2 HX7.o 2
      have l7:=Q6 HX7.o
      have e2:(r.kind==2)=false:=Ql (by omega)
      have e3:(r.kind==3)=false:=Ql (by omega)
      have e4:(r.kind==4)=false:=Ql (by omega)
      have e5:(r.kind==5)=false:=Ql (by omega)
      have e6:(r.kind==6)=true:=by simp[h6]
      have hne7:¬b7=fb:=HR7.o.1
      have HKD:Sc (Kp (fun q=>q=b7) wc (wc.setCell ⟨b7,2,none⟩ (.int .i64 lsn))):=⟨Kp.setCell wc ⟨b7,2,none⟩ _⟩
      have HFD:=Q0 (HFC.o.kp HKD.o (fun h=>HR7.o.1 h.symm) (fun q hq h=>HR7.o.2.1 (by rw[hq,h])) (fun q hq h=>HR7.o.2.2 (by rw[hq,h])))
      have HBD:Sc (Below w.heap.size w (wc.setCell ⟨b7,2,none⟩ (.int .i64 lsn))):=⟨HBC.o.setCell (by have:=HB1.o.size;show w.heap.size<=b7;omega) _⟩
      clear h1 h6 hpv hno
      go_wp2_with fail
      obtain⟨wd,hwd⟩:∃wd,wc.setCell ⟨b7,2,none⟩ (.int .i64 lsn)=wd:=⟨_,rfl⟩
      rw[hwd]at HKD HFD HBD ⊢
      clear hwd c0 c1 c2 c3 c4 c5 c6 c7 c8 c9 x0 x1 x2 x3 y2
      obtain⟨c0,c1,c2,c3,c4,c5,c6,c7,c8,c9⟩:=Qb (HKD.o.at HZC.o hne)
      have CA:Calls Tryz.prog 125 #[.pointer (some ⟨fb,1,none⟩),.int .i64 r.txn] wd.drew fun e w2=>e=.returned (.bool (has s.t r.txn))/\Xt B fb lb rt rd {s with t:=X4 s.t r.txn} wd w2:=(Y4n wd.drew r.txn HFD.o.drew ht).mono fun e w' ⟨he,hl⟩=>⟨he,hl.from_ (Below.refl wd.heap.size wd).drew⟩
      go_region_law (first|(go_simp;go_at_call 125;refine CA.mono ?_;rintro e w2 ⟨rfl,hl⟩;have HLF:=Q0 hl;clear hl))
      all_goals
       clear CA
       go_wp2
       go_ret
       exact⟨by rw[HC.o.1];rfl,by rw[HC.o.2];exact HLF.o.from_ HBD.o⟩
     ·have HC:Sc (ok=(if r.kind=3 then decide (x.2.1≠1)&&decide (r.next<lsn) else decide (x.2.1=0))/\s'={s with t:=Qt s.t (Yt lsn r x),m:=max s.m x.1,d:=if r.kind=2\/r.kind=3 then add s.d (r.page,lsn) else s.d}):=⟨by rw[<-HOK.o.1,<-HOK.o.2];unfold Yu;rw[if_neg h1,if_neg hno,if_neg h6,HX.o.1];exact⟨rfl,rfl⟩⟩
      have y1:=Q2 HX7.o 1
      have y2:=Q2 HX7.o 2
      have y3:=Q2 HX7.o 3
      have l7:=Q6 HX7.o
      have e6:(r.kind==6)=false:=Ql h6
      have hne7:¬b7=fb:=HR7.o.1
      have hne':¬b7=b1:=fun h=>hne h.symm
      clear h1 h6 hpv hno
      go_upto_block 0 with fail
      go_cut [] from 45 to 69 (fun wx=>Sc (wx.heap[b7]? =some (.cells (Qg (Yt lsn r x)).toArray 58 (0,0)))/\Sc (Kp (fun q=>q=b7) wc wx))
      case first=>
       by_cases h2:r.kind=2
       ·have e2:(r.kind==2)=true:=by simp[h2]
        have HN:Sc (Yt lsn r x=(x.1,x.2.1,lsn,lsn)):=⟨by simp[Yt,h2]⟩
        clear h2
        go_wp2_with fail
        go_meet
        case rel=>exact⟨⟨by rw[HN.o,Qn (Qn HX7.o 2 _) 3 _];rfl⟩,⟨(Kp.setCell wc ⟨b7,2,none⟩ _).trans (Kp.setCell _ ⟨b7,3,none⟩ _) (fun _ h=> .inl h)⟩⟩
       ·have e2:(r.kind==2)=false:=Ql h2
        by_cases h3:r.kind=3
        ·have e3:(r.kind==3)=true:=by simp[h3]
         have HN:Sc (Yt lsn r x=(x.1,x.2.1,lsn,r.next)):=⟨by simp[Yt,h3]⟩
         clear h2 h3
         go_wp2_with fail
         go_meet
         case rel=>exact⟨⟨by rw[HN.o,Qn (Qn HX7.o 2 _) 3 _];rfl⟩,⟨(Kp.setCell wc ⟨b7,2,none⟩ _).trans (Kp.setCell _ ⟨b7,3,none⟩ _) (fun _ h=> .inl h)⟩⟩
        ·have e3:(r.kind==3)=false:=Ql h3
         by_cases h4:r.kind=4
         ·have e4:(r.kind==4)=true:=by simp[h4]
          have HN:Sc (Yt lsn r x=(x.1,1,lsn,x.2.2.2)):=⟨by simp[Yt,h4]⟩
          clear h2 h3 h4
          go_wp2_with fail
          go_meet
          case rel=>exact⟨⟨by rw[HN.o,Qn (Qn HX7.o 2 _) 1 _];rfl⟩,⟨(Kp.setCell wc ⟨b7,2,none⟩ _).trans (Kp.setCell _ ⟨b7,1,none⟩ _) (fun _ h=> .inl h)⟩⟩
         ·have e4:(r.kind==4)=false:=Ql h4
          by_cases h5:r.kind=5
          ·have e5:(r.kind==5)=true:=by simp[h5]
           have HN:Sc (Yt lsn r x=(x.1,2,lsn,x.2.2.2)):=⟨by simp[Yt,h5]⟩
           clear h2 h3 h4 h5
           go_wp2_with fail
           go_meet
           case rel=>exact⟨⟨by rw[HN.o,Qn (Qn HX7.o 2 _) 1 _];rfl⟩,⟨(Kp.setCell wc ⟨b7,2,none⟩ _).trans (Kp.setCell _ ⟨b7,1,none⟩ _) (fun _ h=> .inl h)⟩⟩
          ·have e5:(r.kind==5)=false:=Ql h5
           have HN:Sc (Yt lsn r x=(x.1,x.2.1,lsn,x.2.2.2)):=⟨by simp[Yt,h2,h3,h4,h5]⟩
           clear h2 h3 h4 h5
           go_wp2_with fail
           go_meet
           case rel=>exact⟨⟨by rw[HN.o,Qn HX7.o 2 _];rfl⟩,⟨Kp.setCell wc ⟨b7,2,none⟩ _⟩⟩
      case rest=>
       obtain⟨HX8,HK8⟩:=hcut
       have HF8:=Q0 (HFC.o.kp HK8.o (fun h=>HR7.o.1 h.symm) (fun q hq h=>HR7.o.2.1 (by rw[hq,h])) (fun q hq h=>HR7.o.2.2 (by rw[hq,h])))
       have HB8:Sc (Below w.heap.size w wc):=⟨HBC.o.trans (HK8.o.below (by have:=HB1.o.size;omega) (fun q hq=>by rw[hq];have:=HB1.o.size;omega))⟩
       have HZ8:=Q0 (HK8.o.at HZC.o hne)
       obtain⟨x0,x1,x2,x3⟩:=Oe HX8.o
       obtain⟨y,hy⟩:∃y,Yt lsn r x=y:=⟨_,rfl⟩
       have HY:Sc (y.1=x.1):=⟨by rw[<-hy];rfl⟩
       rw[hy]at HX8 HC x0 x1 x2 x3
       clear hy
       have CA:Calls Tryz.prog 121 #[.pointer (some ⟨fb,1,none⟩),Gn y] wc.drew fun e w2=>e=.returned (.tuple #[])/\Xt B fb lb rt rd {s with t:=Qt s.t y,m:=max s.m x.1} wc w2:=(Q9k wc.drew y HF8.o.drew ht).mono fun e w' ⟨he,hl⟩=>⟨he,by rw[<-HY.o];exact hl.from_ (Below.refl wc.heap.size wc).drew⟩
       clear c0 c1 c2 c3 c4 c5 c6 c7 c8 c9
       go_wp2_with fail
       go_region_law (first|(go_simp;go_at_call 121;refine CA.mono ?_;rintro e w2 ⟨rfl,hl⟩;have HLF:=Q0 hl;clear hl))
       all_goals
        clear CA
        obtain⟨rt2,rd2,hf2,hk2,ht2,hd2,hn2⟩:=HLF.o.Um (Q6 HZ8.o) HFR.o
        have HZ9:=Q0 (Ek HLF.o HZ8.o HFR.o)
        obtain⟨c0,c1,c2,c3,c4,c5,c6,c7,c8,c9⟩:=Qb HZ9.o
        have HK2:=Q0 (And.intro hk2 (And.intro ht2 hd2))
        have HN2:=Q0 hn2
        have CD:Calls Tryz.prog 122 #[.pointer (some ⟨fb,3,none⟩),.int .i64 r.page,.int .i64 lsn] w2.drew fun e w3=>e=.returned (.tuple #[])/\Xt B fb lb rt2 rd2 {s with t:=Qt s.t y,m:=max s.m x.1,d:=add s.d (r.page,lsn)} w2 w3:=(X7l w2.drew r.page lsn hf2.drew hd).mono fun e w' ⟨he,hl⟩=>⟨he,hl.from_ (Below.refl w2.heap.size w2).drew⟩
        clear hf2 hk2 ht2 hd2 hn2
        by_cases h2:r.kind=2
        ·have e2:(r.kind==2)=true:=by simp[h2]
         have e3:(r.kind==3)=false:=Ql (by omega)
         have HD:Sc (ok=(x.2.1==0)/\s'={s with t:=Qt s.t y,m:=max s.m x.1,d:=add s.d (r.page,lsn)}):=⟨by rw[HC.o.1,if_neg (by omega),Yd],by rw[HC.o.2,if_pos (.inl h2)]⟩
         clear h2
         go_wp2_with fail
         go_region_law (first|(go_simp;go_at_call 122;refine CD.mono ?_;rintro e w3 ⟨rfl,hl⟩;have HLG:=Q0 hl;clear hl))
         all_goals
          obtain⟨c0,c1,c2,c3,c4,c5,c6,c7,c8,c9⟩:=Qb (Ek HLG.o HZ9.o HN2.o)
          clear CD
          go_wp2
          go_ret
          exact⟨by rw[HD.o.1];rfl,by rw[HD.o.2];exact(Xt.trans HK2.o.1 HK2.o.2.1 HK2.o.2.2 HLG.o).from_ HB8.o⟩
        ·have e2:(r.kind==2)=false:=Ql h2
         by_cases h3:r.kind=3
         ·have e3:(r.kind==3)=true:=by simp[h3]
          have HD:Sc (ok=(decide (x.2.1≠1)&&decide (r.next<lsn))/\s'={s with t:=Qt s.t y,m:=max s.m x.1,d:=add s.d (r.page,lsn)}):=⟨by rw[HC.o.1,if_pos h3],by rw[HC.o.2,if_pos (.inr h3)]⟩
          clear h2 h3
          go_wp2_with fail
          go_region_law (first|(go_simp;go_at_call 122;refine CD.mono ?_;rintro e w3 ⟨rfl,hl⟩;have HLG:=Q0 hl;clear hl))
          all_goals
           obtain⟨c0,c1,c2,c3,c4,c5,c6,c7,c8,c9⟩:=Qb (Ek HLG.o HZ9.o HN2.o)
           clear CD
           go_wp2
           all_goals
            rename_i hw
            go_ret
            refine⟨?_,by rw[HD.o.2];exact(Xt.trans HK2.o.1 HK2.o.2.1 HK2.o.2.2 HLG.o).from_ HB8.o⟩
            first
             |(have HW:ok=(x.2.1 !=1&&decide (r.next<lsn)):=(by rw[HD.o.1];by_cases hq:x.2.1=1<;>simp[hq]);rw[HW];rfl)
             |(have HW:ok=false:=(by rw[HD.o.1];simp[hw]);rw[HW];rfl)
             |(have HW:ok=decide (r.next<lsn):=(by rw[HD.o.1];simp[hw]);rw[HW];rfl)
         ·have e3:(r.kind==3)=false:=Ql h3
          have HD:Sc (ok=(x.2.1==0)/\s'={s with t:=Qt s.t y,m:=max s.m x.1}):=⟨by rw[HC.o.1,if_neg h3,Yd],by rw[HC.o.2,if_neg (by omega)]⟩
          clear h2 h3 CD
          go_wp2
          go_ret
          exact⟨by rw[HD.o.1];rfl,by rw[HD.o.2];exact HLF.o.from_ HB8.o⟩
    ·have epv:(r.prev==x.2.2.1)=false:=Ql hpv
     have HC:Sc (ok=false/\s'=s):=⟨by rw[<-HOK.o.1,<-HOK.o.2];unfold Yu;rw[if_neg h1,if_pos (.inr (by rw[HX.o.1];exact hpv))];exact⟨rfl,rfl⟩⟩
     clear h1 hpv
     go_wp2
     go_ret
     exact⟨by rw[HC.o.1];rfl,by rw[HC.o.2];exact Xt.same HF0.o HBC.o⟩
end
section
set_option maxHeartbeats 2000000
set_option maxRecDepth 4000
abbrev Oc(code p:Int):Value:=.agg #[.int .i64 code,.bool true,.int .i64 p]
abbrev fz:Array Value:= #[.int .i64 0,.bool false,.int .i64 0]
theorem Q7{w1:World}{b:Nat}{t:TypeId}{x y z:Value}(h:w1.heap[b]? =some (.cells #[x,y,z] t (0,0))):
  w1.cell? ⟨b,0,none⟩=some x/\w1.cell? ⟨b,1,none⟩=some y/\w1.cell? ⟨b,2,none⟩=some z/\w1.frozen? ⟨b,0,none⟩=false/\w1.frozen? ⟨b,1,none⟩=false/\w1.frozen? ⟨b,2,none⟩=false/\b<w1.heap.size:=
 ⟨by simp[World.cell?,h],by simp[World.cell?,h],by simp[World.cell?,h],Q2 h 0,Q2 h 1,Q2 h 2,Q6 h⟩
theorem Q7w{w0 w:World}{b:Nat}{u0 u1 u2:Value}(h:Below w0.heap.size w0 w)(hb:w0.heap.size<=b):Below w0.heap.size w0 (((w.setCell ⟨b,0,none⟩ u0).setCell ⟨b,1,none⟩ u1).setCell ⟨b,2,none⟩ u2):=
 ((h.setCell hb _).setCell hb _).setCell hb _
theorem Ja(w:World)(c p:Int)(hc:c≠0):Calls Tryz.prog 38 #[.int .i64 c,.int .i64 p] w fun e w'=>e=.returned (Oc c p)/\Below w.heap.size w w':=by
 have h0:(c==0)=false:=by simp[hc]
 obtain⟨z0,z1,z2,y0,y1,y2,lz⟩:=Q7 (heap_alloc_new w (.cells fz 41))
 have HB:Sc (Below w.heap.size w (w.alloc (.cells fz 41))):=⟨Q3 (Below.refl _ _) _⟩
 clear hc
 go_enter Tryz.func38,Tryz.ntmps38
 go_wp2
 refine bodyPost_ret (v:=Oc c p) (by simp[results,Tryz.results38,go_sem]) rfl ⟨rfl,?_⟩
 first|exact Q7w HB.o (Nat.le_refl _)|exact Q3 (Below.refl _ _) _
theorem Y3c(b:Nat)(w:World):(Instr.typeAssert (Ed b) 36 163 true).run Tryz.prog w=.ok (.tuple #[.pointer (some ⟨b,0,none⟩),.bool true]) w:=by kernel_rfl
theorem X1p(f:Nat->Addr)(w:World)(b:Nat)(p:Int)(h:V1 w f)(hb:w.heap[b]? =some (.cells #[.int .i64 p,Zw (f 7)] 165 (0,0))):Calls Tryz.prog 46 #[Ed b] w fun e w'=>e=.returned (Oc 108 p)/\Below w.heap.size w w':=by
 have hta:=Y3c b
 have HB1:Sc (Below w.heap.size w (w.alloc (.cells fz 41))):=⟨Q3 (Below.refl _ _) _⟩
 have HS:=Q0 (h.bel HB1.o)
 have HA:=Q0 (up HB1.o hb)
 have HZ:=Q0 (heap_alloc_new w (.cells fz 41))
 have hlt:=Q6 hb
 have hbne:¬b=w.heap.size:=by omega
 obtain⟨w1,hw1⟩:∃w1,w.alloc (.cells fz 41)=w1:=⟨_,rfl⟩
 rw[hw1]at HB1 HS HA HZ
 obtain⟨z0,z1,z2,y0,y1,y2,lz⟩:=Q7 HZ.o
 have a0:w1.cell? ⟨b,0,none⟩=some (.int .i64 p):=by simp[World.cell?,HA.o]
 have a1:w1.cell? ⟨b,1,none⟩=some (Zw (f 7)):=by simp[World.cell?,HA.o]
 have lb:=Q6 HA.o
 have HL:Sc (b<w1.heap.size/\w.heap.size<w1.heap.size):=⟨lb,lz⟩
 have HQ:Sc (Below w1.heap.size w1 w1):=⟨Below.refl _ _⟩
 have CS:∀X,Below w1.heap.size w1 X->Calls Tryz.prog 87 #[Zw (f 7)] X fun e w'=>e=.returned (.int .i64 108)/\Below w1.heap.size w1 w':=fun X hX=>(Q0p f X (HS.o.bel hX) 7 (by omega)).mono fun e w' ⟨he,hq⟩=>⟨he,hX.trans (hq.mono hX.size)⟩
 have CP:∀X,Below w1.heap.size w1 X->Calls Tryz.prog 38 #[.int .i64 108,.int .i64 p] X fun e w'=>e=.returned (Oc 108 p)/\Below w1.heap.size w1 w':=fun X hX=>(Ja X 108 p (by omega)).mono fun e w' ⟨he,hq⟩=>⟨he,hX.trans (hq.mono hX.size)⟩
 clear h hb hlt hbne
 go_enter Tryz.func46,Tryz.ntmps46
 go_upto_region 8 with fail
 clear hw1 hta
 go_region_law (first|(go_simp;go_at_call 87;refine(CS _ (by first|exact HQ.o|exact HQ.o.drew)).mono ?_;rintro e wt ⟨rfl,hq⟩;have HQ:=Q0 hq;obtain⟨z0,z1,z2,y0,y1,y2,lz⟩:=Q7 ((hq.block _ HL.o.2).trans HZ.o);have HA2:=(hq.block _ HL.o.1).trans HA.o;have a0:wt.cell? ⟨b,0,none⟩=some (.int .i64 p):=(by simp[World.cell?,HA2]);clear hq HA2)|(go_simp;go_at_call 38;refine(CP _ (by first|exact HQ.o|exact HQ.o.drew)).mono ?_;rintro e wt ⟨rfl,hq⟩;have HQ:=Q0 hq;obtain⟨z0,z1,z2,y0,y1,y2,lz⟩:=Q7 ((hq.block _ HL.o.2).trans HZ.o);clear hq))
 all_goals
  clear CS CP
  go_wp2
  refine bodyPost_ret (v:=Oc 108 p) (by simp[results,Tryz.results46,go_sem,z0,z1,z2]) rfl ⟨rfl,?_⟩
  exact Q7w (Q5 HB1.o HQ.o) (Nat.le_refl _)
theorem X6f(w:World)(c p:Int):Calls Tryz.prog 45 #[Oc c p,Oc c p] w fun e w'=>e=.returned (.bool true)/\Below w.heap.size w w':=by
 go_enter Tryz.func45,Tryz.ntmps45
 go_wp2
 go_ret
 exact⟨rfl,((Below.refl _ _).alloc (Nat.le_refl _) _).alloc (by simp) _⟩
theorem X6e(f:Nat->Addr)(w:World)(b:Nat)(p:Int)(h:V1 w f)(hb:w.heap[b]? =some (.cells #[.int .i64 p,Zw (f 7)] 165 (0,0))):Calls Tryz.prog 16 #[Ed b,Oc 108 p] w fun e w'=>e=.returned (.bool true)/\Below w.heap.size w w':=by
 have HB1:Sc (Below w.heap.size w (w.alloc (.cells #[.int .i64 108,.bool true,.int .i64 p] 41))):=⟨Q3 (Below.refl _ _) _⟩
 have HS:=Q0 (h.bel HB1.o)
 have HA:=Q0 (up HB1.o hb)
 have HZ:=Q0 (heap_alloc_new w (.cells #[.int .i64 108,.bool true,.int .i64 p] 41))
 obtain⟨w1,hw1⟩:∃w1,w.alloc (.cells #[.int .i64 108,.bool true,.int .i64 p] 41)=w1:=⟨_,rfl⟩
 have HW1:=Q0 hw1
 rw[hw1]at HB1 HS HA HZ
 have hc0:∀X:Y2 w1,X.world.cell? ⟨w.heap.size,0,none⟩=some (.int .i64 108):=fun X=>X.cell (by simp[World.cell?,HZ.o])
 have hc1:∀X:Y2 w1,X.world.cell? ⟨w.heap.size,1,none⟩=some (.bool true):=fun X=>X.cell (by simp[World.cell?,HZ.o])
 have hc2:∀X:Y2 w1,X.world.cell? ⟨w.heap.size,2,none⟩=some (.int .i64 p):=fun X=>X.cell (by simp[World.cell?,HZ.o])
 clear h hb hw1
 go_enter Tryz.func16,Tryz.ntmps16
 go_wp2_with fail
 rw[HW1.o]
 refine Xn (by kernel_rfl) (by kernel_rfl) ?_
 repeat (go_big_quiet_step (first
  |(go_at_call 46;exact Y2.call _ (X1p f _ b p (HS.o.bel (Y2.below _)) (up (Y2.below _) HA.o)))
  |(go_at_call 45;exact Y2.call _ (X6f _ _ _))))
 refine wpQuiet_nil ?_
 intro wq hw'
 have HBQ:=Q0 (Y2.Ju hw')
 clear hw'
 go_wp2
 go_ret
 exact⟨rfl,Q5 HB1.o HBQ.o⟩
end
section
variable{B fb lb:Nat}{rt rd row:Option Nat}{s:An}{L:List Q9}{bs:Int}
set_option maxRecDepth 4000 in
set_option maxHeartbeats 2000000 in
theorem Y7e(w:World)(lsn:Int)(r:Q9)(h:Yl B w fb lb rt rd s)(hl:Vu w lb row L bs)(hlb:lb<B/\∀q,row=some q->q<B)(ht:s.t.length<=1000000)(hd:s.d.length<=1000000):
  Calls Tryz.prog 32 #[.pointer (some ⟨fb,0,none⟩),.int .i64 lsn,Yg r] w fun e w'=>e=.returned (.bool (Xc bs lsn r s).1)/\Xt B fb lb rt rd (Xc bs lsn r s).2 w w':=by
 obtain⟨ok,hok⟩:∃ok,(Xc bs lsn r s).1=ok:=⟨_,rfl⟩
 obtain⟨s',hs'⟩:∃s',(Xc bs lsn r s).2=s':=⟨_,rfl⟩
 rw[hok,hs']
 have HOK:=Q0 (And.intro hok hs')
 have HB1:Sc (Below w.heap.size w (w.alloc (.cells (Qe r) 49))):=⟨Q3 (Below.refl _ _) _⟩
 have HF1:=Q0 (h.bel HB1.o)
 have HL1:=Q0 (hl.bel HB1.o)
 have HZ1:=Q0 (heap_alloc_new w (.cells (Qe r) 49))
 obtain⟨w1,hw1⟩:∃w1,w.alloc (.cells (Qe r) 49)=w1:=⟨_,rfl⟩
 obtain⟨b1,hb1⟩:∃b,w.heap.size=b:=⟨_,rfl⟩
 rw[hw1]at HB1 HF1 HL1 HZ1
 rw[hb1]at HZ1
 have HLB:=Q0 hlb
 obtain⟨c0,c1,c2,c3,c4,c5,c6,c7,c8,c9⟩:=Qb HZ1.o
 obtain⟨f0,f4⟩:=HF1.o.cells
 clear hok hs' h hl hlb
 cases hi:s.ins with
 |true=>
  rw[hi]at f4
  have HS:Sc (Xc bs lsn r s=J2 bs lsn r s):=⟨by unfold Xc;rw[if_pos hi]⟩
  clear hi
  go_enter Tryz.func32,Tryz.ntmps32
  go_wp2_with fail
  clear hw1 hb1
  refine(Y1r w1 lsn r HF1.o HL1.o HLB.o ht hd).mono ?_
  rw[<-HS.o,HOK.o.1,HOK.o.2]
  rintro e w2 ⟨rfl,hl⟩
  have HLF:=Q0 hl
  clear hl c0 c1 c2 c3 c4 c5 c6 c7 c8 c9 f0 f4
  go_wp2
  go_ret
  exact⟨rfl,HLF.o.from_ HB1.o⟩
 |false=>
  rw[hi]at f4
  by_cases h7:7<=r.kind
  ·have d7:decide (7<=r.kind)=true:=decide_eq_true h7
   have HS:Sc (Xc bs lsn r s=(true,s)):=⟨by unfold Xc;rw[if_neg (by rw[hi];exact Bool.false_ne_true),if_pos h7]⟩
   have HE:Sc (ok=true/\s'=s):=⟨by rw[<-HOK.o.1,<-HOK.o.2,HS.o];exact⟨rfl,rfl⟩⟩
   clear hi
   go_enter Tryz.func32,Tryz.ntmps32
   go_wp2
   go_ret
   exact⟨by rw[HE.o.1];rfl,by rw[HE.o.2];exact(Xt.refl HF1.o).from_ HB1.o⟩
  ·have d7:decide (7<=r.kind)=false:=decide_eq_false h7
   have HS:Sc (Xc bs lsn r s=Yu lsn r s):=⟨by unfold Xc;rw[if_neg (by rw[hi];exact Bool.false_ne_true),if_neg h7]⟩
   clear hi
   go_enter Tryz.func32,Tryz.ntmps32
   go_wp2_with fail
   clear hw1 hb1
   refine(Y4o w1 lsn r HF1.o ht hd).mono ?_
   rw[<-HS.o,HOK.o.1,HOK.o.2]
   rintro e w2 ⟨rfl,hl⟩
   have HLF:=Q0 hl
   clear hl c0 c1 c2 c3 c4 c5 c6 c7 c8 c9 f0 f4
   go_wp2
   go_ret
   exact⟨rfl,HLF.o.from_ HB1.o⟩
theorem Q1q(lsn:Int)(r:Q9)(s:An):(Xc bs lsn r s).2.t.length<=s.t.length+1/\(Xc bs lsn r s).2.d.length<=s.d.length+1:=by
 unfold Xc
 split
 ·unfold J2
  split
  ·exact⟨G0 _ _,Nat.le_succ _⟩
  split
  ·exact⟨Nat.le_succ _,C0 _ _⟩
  split<;>exact⟨Nat.le_succ _,Nat.le_succ _⟩
 split
 ·exact⟨Nat.le_succ _,Nat.le_succ _⟩
 unfold Yu
 split
 ·exact⟨G0 _ _,Nat.le_succ _⟩
 split
 ·exact⟨Nat.le_succ _,Nat.le_succ _⟩
 split
 ·exact⟨Nat.le_succ_of_le (drop'_length _ _),Nat.le_succ _⟩
 refine⟨G0 _ _,?_⟩
 show(if r.kind=2\/r.kind=3 then add s.d (r.page,lsn) else s.d).length<=_
 split
 ·exact C0 _ _
 ·exact Nat.le_succ _
theorem Q1k{b lsn:Int}{i:Nat}{r:Q9}{s:An}(hr:L[i]? =some r)(h:(Xc b lsn r s).1=true):Xz b lsn (L.drop i) s=Xz b (lsn+1) (L.drop (i+1)) (Xc b lsn r s).2:=by
 rw[List.drop_eq_getElem_cons (List.getElem?_eq_some_iff.mp hr).1,(List.getElem?_eq_some_iff.mp hr).2,Xz,if_pos h]
theorem Q1m{b lsn:Int}{i:Nat}{r:Q9}{s:An}(hr:L[i]? =some r)(h:(Xc b lsn r s).1=false):(Xz b lsn (L.drop i) s).1=some lsn:=by
 rw[List.drop_eq_getElem_cons (List.getElem?_eq_some_iff.mp hr).1,(List.getElem?_eq_some_iff.mp hr).2,Xz,if_neg (by rw[h];exact Bool.false_ne_true)]
theorem Q5h{b lsn:Int}{s:An}:Xz b lsn (L.drop L.length) s=(none,s):=by rw[List.drop_length,Xz]
theorem Cq{pages lsn:Int}{i:Nat}{r:Q9}(hr:L[i]? =some r)(h:¬((r.kind=2\/r.kind=3\/r.kind=9)/\pages<r.page)):Xu pages lsn (L.drop i)=Xu pages (lsn+1) (L.drop (i+1)):=by
 rw[List.drop_eq_getElem_cons (List.getElem?_eq_some_iff.mp hr).1,(List.getElem?_eq_some_iff.mp hr).2,Xu,if_neg h]
theorem Cr{pages lsn:Int}{i:Nat}{r:Q9}(hr:L[i]? =some r)(h:(r.kind=2\/r.kind=3\/r.kind=9)/\pages<r.page):Xu pages lsn (L.drop i)=some lsn:=by
 rw[List.drop_eq_getElem_cons (List.getElem?_eq_some_iff.mp hr).1,(List.getElem?_eq_some_iff.mp hr).2,Xu,if_pos h]
theorem Q1t{pages lsn:Int}:Xu pages lsn (L.drop L.length)=none:=by rw[List.drop_length,Xu]
end
section
abbrev fd0:Array Value:= #[.slice none 0 0,.slice none 0 0,.int .i64 0]
def Y1e(f:Nat->Addr)(base:Nat)(x:Option Int×An)(e:Ending)(w':World):Prop:=
 (∃p b,x.1=some p/\e=.returned (.tuple #[.agg fd0,Ed b])/\base<=b/\w'.heap[b]? =some (.cells #[.int .i64 p,Zw (f 7)] 165 (0,0)))
 \/(∃vt vd,x.1=none/\e=.returned (.tuple #[.agg #[vt,vd,.int .i64 x.2.m],.nilIface])/\Own Qg 4 58 base w' vt x.2.t/\Own Qj 2 60 base w' vd x.2.d)
theorem Jr{w:World}{b:Nat}{u0 u1 u2:Value}:Kp (fun q=>q=b) w (((w.setCell ⟨b,0,none⟩ u0).setCell ⟨b,1,none⟩ u1).setCell ⟨b,2,none⟩ u2):=
 ((Kp.setCell w ⟨b,0,none⟩ u0).trans (Kp.setCell _ ⟨b,1,none⟩ u1) (fun _ h=> .inl h)).trans (Kp.setCell _ ⟨b,2,none⟩ u2) (fun _ h=> .inl h)
theorem Jy{w0 w:World}{b:Nat}{u0 u1 u2:Value}(h:Below w0.heap.size w0 w)(hb:w0.heap.size<=b):Below w0.heap.size w0 (((w.setCell ⟨b,0,none⟩ u0).setCell ⟨b,1,none⟩ u1).setCell ⟨b,2,none⟩ u2):=
 ((h.setCell hb _).setCell hb _).setCell hb _
theorem X7{w1:World}{b:Nat}{t:TypeId}{x y z:Value}(h:w1.heap[b]? =some (.cells #[x,y,z] t (0,0))):
  w1.cell? ⟨b,0,none⟩=some x/\w1.cell? ⟨b,1,none⟩=some y/\w1.cell? ⟨b,2,none⟩=some z:=by simp[World.cell?,h]
theorem Q7q{L:List Q9}{bs pages Xe p:Int}(h:Xu pages (bs+1) L=some p):Zc L bs pages Xe=(some p,An.zero false):=by unfold Zc;rw[h]
theorem Q7r{L:List Q9}{bs pages:Int}(h:Xu pages (bs+1) L=none):Zc L bs pages 0=Y7 (bs+L.length) (Xz bs (bs+1) L (An.zero false)):=by unfold Zc;rw[h];simp
theorem Q7p{L:List Q9}{bs pages Xe:Int}(h:Xu pages (bs+1) L=none)(h0:Xe≠0)(hr:Qx L bs Xe=none):Zc L bs pages Xe=(some Xe,An.zero false):=by unfold Zc;simp[h,h0,hr]
theorem X1b{L:List Q9}{bs pages Xe:Int}{r:Q9}(h:Xu pages (bs+1) L=none)(h0:Xe≠0)(hr:Qx L bs Xe=some r)(h7:¬r.kind=7):Zc L bs pages Xe=(some Xe,An.zero false):=by unfold Zc;simp[h,h0,hr,h7]
theorem Q5b{L:List Q9}{bs x:Int}{r:Q9}(h:Qx L bs x=some r):∃j:Nat,x=bs+1+j/\j<L.length/\L[j]? =some r:=by
 unfold Qx at h
 split at h
 ·rename_i hc
  exact⟨(x - bs - 1).toNat,by omega,by omega,h⟩
 ·simp at h
theorem X7h{L:List Q9}{bs pages Xe:Int}{r:Q9}{j:Nat}(h:Xu pages (bs+1) L=none)(h0:Xe≠0)(hr:Qx L bs Xe=some r)(h7:r.kind=7)(hj:Xe=bs+1+j):Zc L bs pages Xe=Y7 (bs+L.length) (Xz bs (bs+1+((j+1:Nat):Int)) (L.drop (j+1)) (An.zero true)):=by
 have e1:(Xe - bs).toNat=j+1:=by omega
 have e2:Xe+1=bs+1+((j+1:Nat):Int):=by omega
 unfold Zc
 simp only[h,hr]
 rw[if_neg h0,if_pos h7,e1,e2]
theorem C5{last p:Int}{x:Option Int×An}(h:x.1=some p):Y7 last x=(some p,An.zero false):=by unfold Y7;rw[h]
theorem Q7s{last:Int}{s:An}(h:s.ins=true):Y7 last (none,s)=(some (last+1),An.zero false):=by unfold Y7;simp[h]
theorem Q7t{last:Int}{s:An}(h:s.ins=false):Y7 last (none,s)=(none,s):=by unfold Y7;simp[h]
theorem Yl.new{B lb:Nat}(w:World)(h:B<=w.heap.size)(i:Bool):Yl B (w.alloc (.cells #[.pointer (some ⟨lb,0,none⟩),.slice none 0 0,.int .i64 0,.slice none 0 0,.bool i] 117)) w.heap.size lb none none (An.zero i):=
 ⟨⟨.slice none 0 0,.slice none 0 0,rfl,rfl,heap_alloc_new w _,Own.nil,Own.nil⟩,fun h=>by simp at h,fun h=>by simp at h,fun _ h=>by simp at h,List.Pairwise.nil,List.Pairwise.nil,h,fun _ h=>by simp at h,fun _ h=>by simp at h⟩
variable{f:Nat->Addr}{lb:Nat}{row:Option Nat}{L:List Q9}{bs:Int}
set_option maxRecDepth 4000 in
set_option maxHeartbeats 4000000 in
theorem Ui(w:World)(pages Xe:Int)(h:Vu w lb row L bs)(hS:V1 w f)(hlen:L.length<=1000)(h0:0<=bs)(h1:bs<=1000):
  Calls Tryz.prog 8 #[.pointer (some ⟨lb,0,none⟩),.int .i64 pages,.int .i64 Xe] w fun e w'=>Y1e f w.heap.size (Zc L bs pages Xe) e w'/\Below w.heap.size w w':=by
 obtain⟨res,hres⟩:∃res,Zc L bs pages Xe=res:=⟨_,rfl⟩
 rw[hres]
 have HRES:=Q0 hres
 have HB1:Sc (Below w.heap.size w (w.alloc (.cells fd0 34))):=⟨Q3 (Below.refl _ _) _⟩
 have HL1:=Q0 (h.bel HB1.o)
 have HS1:=Q0 (hS.bel HB1.o)
 have HLL:=Q0 (And.intro h.lt h.Gt)
 have HZ1:=Q0 (heap_alloc_new w (.cells fd0 34))
 obtain⟨w1,hw1⟩:∃w1,w.alloc (.cells fd0 34)=w1:=⟨_,rfl⟩
 rw[hw1]at HB1 HL1 HS1 HZ1
 obtain⟨b6,hb6⟩:∃b,w.heap.size=b:=⟨_,rfl⟩
 have H6:Sc (w.heap.size<=b6):=⟨by omega⟩
 rw[hb6]at HZ1
 have hl6:=Q6 HZ1.o
 have HLB:Sc (lb<w1.heap.size/\∀q,row=some q->q<w1.heap.size):=⟨Nat.lt_of_lt_of_le HLL.o.1 HB1.o.size,fun q hq=>Nat.lt_of_lt_of_le (HLL.o.2 q hq) HB1.o.size⟩
 have hlen':L.length<=1000000:=by omega
 have h1':bs<=1000000:=by omega
 have hwb:IntKind.i64.wrap (bs+1)=bs+1:=IntWalk.i64_in _ ⟨by omega,by omega⟩
 clear hres h hS HLL
 go_enter Tryz.func8,Tryz.ntmps8
 go_wp2_with fail
 clear hw1 hb6
 refine(D5 w1 lb row L bs HL1.o).mono ?_
 rintro e w2 ⟨rfl,rfl⟩
 go_wp2_with fail
 go_loopg [7,8] L.length (fun kx s7 s8 wr=>∃i:Nat,s7=.nilIface/\s8=.int .i64 (bs+1+i)/\i<=L.length/\L.length - i<=kx/\Sc (Below w2.heap.size w2 wr)/\Sc (Xu pages (bs+1) L=Xu pages (bs+1+i) (L.drop i)))
 case atStart=>exact⟨0,rfl,by go_num,Nat.zero_le _,by omega,⟨Below.refl _ _⟩,⟨by simp⟩⟩
 case round=>
  obtain⟨i,rfl,rfl,hi,hk,HB,HBP⟩:=hrel
  have hw1:IntKind.i64.wrap (bs+1+i+1)=bs+1+((i+1:Nat):Int):=by rw[IntWalk.i64_in _ ⟨by omega,by omega⟩];omega
  go_wp2_with fail
  refine(Jx _ lb row L bs (HL1.o.bel HB.o) hlen' h0 h1').mono ?_
  rintro e w3 ⟨rfl,hb⟩
  have HB3:=Q0 (Q5 HB.o hb)
  clear hb HB
  by_cases hlt:i<L.length
  ·obtain⟨r,hr⟩:∃r,L[i]? =some r:=⟨_,List.getElem?_eq_getElem hlt⟩
   have HR:Sc (Qx L bs (bs+1+i)=some r):=⟨by rw[Gr rfl hlt,hr]⟩
   have HRI:=Q0 hr
   have hle:decide (bs+1+(i:Int)<=bs+L.length)=true:=decide_eq_true (by omega)
   clear hr
   go_wp2_with fail
   refine(Cj _ lb row L bs (bs+1+i) (HL1.o.bel HB3.o) hlen' h0 h1').mono ?_
   rw[HR.o]
   rintro e w4 ⟨rfl,hb⟩
   have HB4:=Q0 (Q5 HB3.o hb)
   clear hb HB3
   simp only[Option.getD_some]
   obtain⟨c0,c1,c2,c3,c4,c5,c6,c7,c8,c9⟩:=Qb (heap_alloc_new w4 (.cells (Qe r) 49))
   have HB5:Sc (Below w2.heap.size w2 (w4.alloc (.cells (Qe r) 49))):=⟨Q3 HB4.o _⟩
   by_cases hc:(r.kind=2\/r.kind=3\/r.kind=9)/\pages<r.page
   ·have HE:Sc (res=(some (bs+1+(i:Int)),An.zero false)):=⟨by rw[<-HRES.o];exact Q7q (by rw[HBP.o,Cr HRI.o hc])⟩
    have hp:decide (pages<r.page)=true:=decide_eq_true hc.2
    rcases hc.1 with hk2|hk2|hk2
    ·have e2:(r.kind==2)=true:=by simp[hk2]
     clear hc hk2
     go_wp2_with fail
     refine(Ot f _ _ (HS1.o.bel HB5.o)).mono ?_
     rintro e w5 ⟨b,rfl,hb,hbc,hbb⟩
     have HB6:=Q0 (Q5 HB5.o hbb)
     have HBC:=Q0 hbc
     have hz:=up HB6.o HZ1.o
     obtain⟨q0,q1,q2⟩:=X7 hz
     have z0:=Q2 hz 0
     have z1:=Q2 hz 1
     have z2:=Q2 hz 2
     have lz:=Q6 hz
     have hne:b≠b6:=by have:=HB5.o.size;omega
     clear hbc hbb hz c0 c1 c2 c3 c4 c5 c6 c7 c8 c9
     go_wp2
     refine bodyPost_ret (v:=.tuple #[.agg fd0,Ed b]) (by simp[results,Tryz.results8,go_sem,q0,q1,q2]) rfl ⟨.inl ⟨_,b,by rw[HE.o],rfl,by have:=HB5.o.size;have:=HB1.o.size;omega,Jr.at HBC.o hne⟩,?_⟩
     exact Jy (Q5 HB1.o HB6.o) H6.o
    ·have e2:(r.kind==2)=false:=Ql (by omega)
     have e3:(r.kind==3)=true:=by simp[hk2]
     clear hc hk2
     go_wp2_with fail
     refine(Ot f _ _ (HS1.o.bel HB5.o)).mono ?_
     rintro e w5 ⟨b,rfl,hb,hbc,hbb⟩
     have HB6:=Q0 (Q5 HB5.o hbb)
     have HBC:=Q0 hbc
     have hz:=up HB6.o HZ1.o
     obtain⟨q0,q1,q2⟩:=X7 hz
     have z0:=Q2 hz 0
     have z1:=Q2 hz 1
     have z2:=Q2 hz 2
     have lz:=Q6 hz
     have hne:b≠b6:=by have:=HB5.o.size;omega
     clear hbc hbb hz c0 c1 c2 c3 c4 c5 c6 c7 c8 c9
     go_wp2
     refine bodyPost_ret (v:=.tuple #[.agg fd0,Ed b]) (by simp[results,Tryz.results8,go_sem,q0,q1,q2]) rfl ⟨.inl ⟨_,b,by rw[HE.o],rfl,by have:=HB5.o.size;have:=HB1.o.size;omega,Jr.at HBC.o hne⟩,?_⟩
     exact Jy (Q5 HB1.o HB6.o) H6.o
    ·have e2:(r.kind==2)=false:=Ql (by omega)
     have e3:(r.kind==3)=false:=Ql (by omega)
     have e9:(r.kind==9)=true:=by simp[hk2]
     clear hc hk2
     go_wp2_with fail
     refine(Ot f _ _ (HS1.o.bel HB5.o)).mono ?_
     rintro e w5 ⟨b,rfl,hb,hbc,hbb⟩
     have HB6:=Q0 (Q5 HB5.o hbb)
     have HBC:=Q0 hbc
     have hz:=up HB6.o HZ1.o
     obtain⟨q0,q1,q2⟩:=X7 hz
     have z0:=Q2 hz 0
     have z1:=Q2 hz 1
     have z2:=Q2 hz 2
     have lz:=Q6 hz
     have hne:b≠b6:=by have:=HB5.o.size;omega
     clear hbc hbb hz c0 c1 c2 c3 c4 c5 c6 c7 c8 c9
     go_wp2
     refine bodyPost_ret (v:=.tuple #[.agg fd0,Ed b]) (by simp[results,Tryz.results8,go_sem,q0,q1,q2]) rfl ⟨.inl ⟨_,b,by rw[HE.o],rfl,by have:=HB5.o.size;have:=HB1.o.size;omega,Jr.at HBC.o hne⟩,?_⟩
     exact Jy (Q5 HB1.o HB6.o) H6.o
   ·have HBP2:Sc (Xu pages (bs+1) L=Xu pages (bs+1+((i+1:Nat):Int)) (L.drop (i+1))):=⟨by rw[HBP.o,Cq HRI.o hc];congr 1;omega⟩
    by_cases hk2:r.kind=2
    ·have e2:(r.kind==2)=true:=by simp[hk2]
     have hp:decide (pages<r.page)=false:=decide_eq_false (fun h=>hc ⟨.inl hk2,h⟩)
     clear hc hk2
     go_wp2
     go_roundg (L.length - (i+1))
     case measure=>omega
     case rel=>exact⟨i+1,rfl,by rw[show bs+1+((i+1:Nat):Int)=bs+1+((i:Int)+1) from by omega],by omega,Nat.le_refl _,HB5,HBP2⟩
    by_cases hk3:r.kind=3
    ·have e2:(r.kind==2)=false:=Ql hk2
     have e3:(r.kind==3)=true:=by simp[hk3]
     have hp:decide (pages<r.page)=false:=decide_eq_false (fun h=>hc ⟨.inr (.inl hk3),h⟩)
     clear hc hk2 hk3
     go_wp2
     go_roundg (L.length - (i+1))
     case measure=>omega
     case rel=>exact⟨i+1,rfl,by rw[show bs+1+((i+1:Nat):Int)=bs+1+((i:Int)+1) from by omega],by omega,Nat.le_refl _,HB5,HBP2⟩
    by_cases hk9:r.kind=9
    ·have e2:(r.kind==2)=false:=Ql hk2
     have e3:(r.kind==3)=false:=Ql hk3
     have e9:(r.kind==9)=true:=by simp[hk9]
     have hp:decide (pages<r.page)=false:=decide_eq_false (fun h=>hc ⟨.inr (.inr hk9),h⟩)
     clear hc hk2 hk3 hk9
     go_wp2
     go_roundg (L.length - (i+1))
     case measure=>omega
     case rel=>exact⟨i+1,rfl,by rw[show bs+1+((i+1:Nat):Int)=bs+1+((i:Int)+1) from by omega],by omega,Nat.le_refl _,HB5,HBP2⟩
    have e2:(r.kind==2)=false:=Ql hk2
    have e3:(r.kind==3)=false:=Ql hk3
    have e9:(r.kind==9)=false:=Ql hk9
    clear hc hk2 hk3 hk9
    go_wp2
    go_roundg (L.length - (i+1))
    case measure=>omega
    case rel=>exact⟨i+1,rfl,by rw[show bs+1+((i+1:Nat):Int)=bs+1+((i:Int)+1) from by omega],by omega,Nat.le_refl _,HB5,HBP2⟩
  ·have hle:decide (bs+1+(i:Int)<=bs+L.length)=false:=decide_eq_false (by omega)
   have HI:Sc (i=L.length):=⟨by omega⟩
   have HBN:Sc (Xu pages (bs+1) L=none):=⟨by rw[HBP.o,HI.o,Q1t]⟩
   have HF0:=Q0 (Yl.new (B:=w2.heap.size) (lb:=lb) w3 HB3.o.size false)
   have HB4:Sc (Below w2.heap.size w2 (w3.alloc (.cells #[.pointer (some ⟨lb,0,none⟩),.slice none 0 0,.int .i64 0,.slice none 0 0,.bool false] 117))):=⟨Q3 HB3.o _⟩
   clear hw1 hi hk hlt HBP
   go_wp2_with fail
   refine(D5 _ lb row L bs (HL1.o.bel HB4.o)).mono ?_
   obtain⟨wf,hwf⟩:∃wf,w3.alloc (.cells #[.pointer (some ⟨lb,0,none⟩),.slice none 0 0,.int .i64 0,.slice none 0 0,.bool false] 117)=wf:=⟨_,rfl⟩
   obtain⟨fb,hfb⟩:∃fb,w3.heap.size=fb:=⟨_,rfl⟩
   rw[hwf]at HF0 HB4 ⊢
   rw[hfb]at HF0 ⊢
   rintro e w4 ⟨rfl,rfl⟩
   clear hwf hfb HB3 hle
   go_upto_if 62 with fail
   go_cut [7,12] from 62 to 83 (fun s7 s12 wx=>∃(i0:Nat) (ins:Bool),s7=.nilIface/\s12=.int .i64 (bs+1+i0)/\i0<=L.length/\Sc (Yl w2.heap.size wx fb lb none none (An.zero ins))/\Sc (Below w2.heap.size w2 wx)/\Sc (Zc L bs pages Xe=Y7 (bs+L.length) (Xz bs (bs+1+i0) (L.drop i0) (An.zero ins))))
   case first=>
    by_cases hck:Xe=0
    ·have e0:(Xe==0)=true:=by simp[hck]
     have HA:Sc (Zc L bs pages Xe=Y7 (bs+L.length) (Xz bs (bs+1+((0:Nat):Int)) (L.drop 0) (An.zero false))):=⟨by rw[hck,Q7r HBN.o];simp⟩
     clear hck
     go_wp2_with fail
     go_meet
     case rel=>exact⟨0,false,rfl,by go_num,Nat.zero_le _,HF0,HB4,HA⟩
    ·have e0:(Xe==0)=false:=Ql hck
     have HCK:Sc (Xe≠0):=⟨hck⟩
     clear hck
     go_wp2_with fail
     refine(Cj _ lb row L bs Xe (HL1.o.bel HB4.o) hlen' h0 h1').mono ?_
     cases hrec:Qx L bs Xe with
     |none=>
      have HE:Sc (res=(some Xe,An.zero false)):=⟨by rw[<-HRES.o];exact Q7p HBN.o HCK.o hrec⟩
      simp only[Option.getD_none,Option.isSome_none]
      rintro e w5 ⟨rfl,hb⟩
      have HB5:Sc (Below w2.heap.size w2 (w5.alloc (.cells (Qe Z9) 49))):=⟨Q3 (Q5 HB4.o hb) _⟩
      clear hb hrec
      go_wp2_with fail
      refine(Ot f _ _ (HS1.o.bel HB5.o)).mono ?_
      rintro e w6 ⟨b,rfl,hb,hbc,hbb⟩
      have HB6:=Q0 (Q5 HB5.o hbb)
      have HBC:=Q0 hbc
      have hz:=up HB6.o HZ1.o
      obtain⟨q0,q1,q2⟩:=X7 hz
      have z0:=Q2 hz 0
      have z1:=Q2 hz 1
      have z2:=Q2 hz 2
      have lz:=Q6 hz
      have hne:b≠b6:=by have:=HB5.o.size;omega
      clear hbc hbb hz
      go_wp2
      refine bodyPost_ret (v:=.tuple #[.agg fd0,Ed b]) (by simp[results,Tryz.results8,go_sem,q0,q1,q2]) rfl ⟨.inl ⟨_,b,by rw[HE.o],rfl,by have:=HB5.o.size;have:=HB1.o.size;omega,Jr.at HBC.o hne⟩,?_⟩
      exact Jy (Q5 HB1.o HB6.o) H6.o
     |some r=>
      simp only[Option.getD_some,Option.isSome_some]
      rintro e w5 ⟨rfl,hb⟩
      have HB5:Sc (Below w2.heap.size w2 (w5.alloc (.cells (Qe r) 49))):=⟨Q3 (Q5 HB4.o hb) _⟩
      have HF5:Sc (Yl w2.heap.size (w5.alloc (.cells (Qe r) 49)) fb lb none none (An.zero false)):=⟨HF0.o.bel (Q3 hb _)⟩
      obtain⟨c0,c1,c2,c3,c4,c5,c6,c7,c8,c9⟩:=Qb (heap_alloc_new w5 (.cells (Qe r) 49))
      have HREC:=Q0 hrec
      have y45:=(HF0.o.bel hb).Qr 4
      have lf5:=(HF0.o.bel hb).lt
      have ne5:¬w5.heap.size=fb:=by omega
      have f45:=(HF0.o.bel hb).cells.2
      have HBD:Sc (Below w2.heap.size w2 ((w5.setCell ⟨fb,4,none⟩ (.bool true)).alloc (.cells (Qe r) 49))):=⟨Q3 ((Q5 HB4.o hb).setCell HF0.o.X5n _) _⟩
      have HFD:Sc (Yl w2.heap.size ((w5.setCell ⟨fb,4,none⟩ (.bool true)).alloc (.cells (Qe r) 49)) fb lb none none (An.zero true)):=⟨((HF0.o.bel hb).X0d true).bel (Q3 (Below.refl _ _) _)⟩
      clear hb hrec
      by_cases h7:r.kind=7
      ·have e7:(r.kind==7)=true:=by simp[h7]
       obtain⟨j,hj,hjl,_⟩:=Q5b HREC.o
       have HA:Sc (Zc L bs pages Xe=Y7 (bs+L.length) (Xz bs (bs+1+((j+1:Nat):Int)) (L.drop (j+1)) (An.zero true))):=⟨X7h HBN.o HCK.o HREC.o h7 hj⟩
       have hwk:IntKind.i64.wrap (Xe+1)=bs+1+((j+1:Nat):Int):=by rw[IntWalk.i64_in _ ⟨by omega,by omega⟩];omega
       clear h7 hj
       go_wp2_with fail
       go_meet
       case rel=>exact⟨j+1,true,rfl,rfl,by omega,HFD,HBD,HA⟩
      ·have e7:(r.kind==7)=false:=Ql h7
       have HE:Sc (res=(some Xe,An.zero false)):=⟨by rw[<-HRES.o];exact X1b HBN.o HCK.o HREC.o h7⟩
       clear h7
       go_wp2_with fail
       refine(Ot f _ _ (HS1.o.bel HB5.o)).mono ?_
       rintro e w6 ⟨b,rfl,hb,hbc,hbb⟩
       have HB6:=Q0 (Q5 HB5.o hbb)
       have HBC:=Q0 hbc
       have hz:=up HB6.o HZ1.o
       obtain⟨q0,q1,q2⟩:=X7 hz
       have z0:=Q2 hz 0
       have z1:=Q2 hz 1
       have z2:=Q2 hz 2
       have lz:=Q6 hz
       have hne:b≠b6:=by have:=HB5.o.size;omega
       clear hbc hbb hz
       go_wp2
       refine bodyPost_ret (v:=.tuple #[.agg fd0,Ed b]) (by simp[results,Tryz.results8,go_sem,q0,q1,q2]) rfl ⟨.inl ⟨_,b,by rw[HE.o],rfl,by have:=HB5.o.size;have:=HB1.o.size;omega,Jr.at HBC.o hne⟩,?_⟩
       exact Jy (Q5 HB1.o HB6.o) H6.o
   case rest=>
    obtain⟨i0,ins,rfl,rfl,hi0,HFX,HBX,HAX⟩:=hcut
    clear HF0 HB4
    go_wp2_with fail
    go_loopg [7,15] L.length (fun kx s7 s15 wr=>∃(k:Nat) (s:An) (rt rd:Option Nat),s7=.nilIface/\s15=.int .i64 (bs+1+k)/\k<=L.length/\L.length - k<=kx/\s.t.length<=k/\s.d.length<=k/\Sc (Yl w2.heap.size wr fb lb rt rd s)/\Sc (Below w2.heap.size w2 wr)/\Sc (Zc L bs pages Xe=Y7 (bs+L.length) (Xz bs (bs+1+k) (L.drop k) s)))
    case atStart=>exact⟨i0,An.zero ins,none,none,rfl,rfl,hi0,by omega,Nat.zero_le _,Nat.zero_le _,HFX,HBX,HAX⟩
    case round=>
     obtain⟨k,s,rt,rd,rfl,rfl,hk,hkx,hst,hsd,HF,HB,HA⟩:=hrel
     have hw1:IntKind.i64.wrap (bs+1+k+1)=bs+1+(k:Int)+1:=IntWalk.i64_in _ ⟨by omega,by omega⟩
     clear HFX HBX HAX
     go_wp2_with fail
     refine(Jx _ lb row L bs (HL1.o.bel HB.o) hlen' h0 h1').mono ?_
     rintro e w3 ⟨rfl,hb⟩
     have HB3:=Q0 (Q5 HB.o hb)
     have HF3:=Q0 (HF.o.bel hb)
     clear hb HB HF
     by_cases hlt:k<L.length
     ·obtain⟨r,hr⟩:∃r,L[k]? =some r:=⟨_,List.getElem?_eq_getElem hlt⟩
      have HR:Sc (Qx L bs (bs+1+k)=some r):=⟨by rw[Gr rfl hlt,hr]⟩
      have HRI:=Q0 hr
      have hle:decide (bs+1+(k:Int)<=bs+L.length)=true:=decide_eq_true (by omega)
      clear hr
      go_wp2_with fail
      refine(Cj _ lb row L bs (bs+1+k) (HL1.o.bel HB3.o) hlen' h0 h1').mono ?_
      rw[HR.o]
      rintro e w4 ⟨rfl,hb⟩
      have HB4:Sc (Below w2.heap.size w2 (w4.alloc (.cells (Qe r) 49))):=⟨Q3 (Q5 HB3.o hb) _⟩
      have HF4:Sc (Yl w2.heap.size (w4.alloc (.cells (Qe r) 49)) fb lb rt rd s):=⟨HF3.o.bel (Q3 hb _)⟩
      clear hb HB3 HF3
      simp only[Option.getD_some]
      obtain⟨c0,c1,c2,c3,c4,c5,c6,c7,c8,c9⟩:=Qb (heap_alloc_new w4 (.cells (Qe r) 49))
      go_wp2_with fail
      refine(Y7e _ (bs+1+k) r HF4.o (HL1.o.bel HB4.o) HLB.o (by omega) (by omega)).mono ?_
      rintro e w5 ⟨rfl,hl⟩
      have HB5:Sc (Below w2.heap.size w2 w5):=⟨HB4.o.trans (hl.below HF4.o)⟩
      have HLN:=Q0 (Q1q (bs:=bs) (bs+1+k) r s)
      have HRN:(Xc bs (bs+1+k) r s).1=true->Sc (Zc L bs pages Xe=Y7 (bs+L.length) (Xz bs (bs+1+(k:Int)+1) (L.drop (k+1)) (Xc bs (bs+1+k) r s).2)):=fun h=>⟨by rw[HA.o,Q1k HRI.o h]⟩
      have HRS:(Xc bs (bs+1+k) r s).1=false->Sc (res=(some (bs+1+(k:Int)),An.zero false)):=fun h=>⟨by rw[<-HRES.o,HA.o];exact C5 (Q1m HRI.o h)⟩
      obtain⟨rt5,rd5,hf5,_,_,_⟩:=hl
      have HF5:=Q0 hf5
      clear hf5
      obtain⟨ok,hok⟩:∃ok,(Xc bs (bs+1+k) r s).1=ok:=⟨_,rfl⟩
      obtain⟨s',hs'⟩:∃s',(Xc bs (bs+1+k) r s).2=s':=⟨_,rfl⟩
      rw[hok]at HRN HRS ⊢
      rw[hs']at HRN HF5 HLN
      clear hok hs' HF4 HB4 c0 c1 c2 c3 c4 c5 c6 c7 c8 c9
      cases ok with
      |true=>
       have HAN:=HRN rfl
       clear HRN HRS
       obtain⟨hl1,hl2⟩:=HLN.o
       go_wp2
       go_roundg (L.length - (k+1))
       case measure=>omega
       case rel=>exact⟨k+1,s',rt5,rd5,rfl,by rw[show bs+1+((k+1:Nat):Int)=bs+1+(k:Int)+1 from by omega],by omega,Nat.le_refl _,by omega,by omega,HF5,HB5,⟨by rw[HAN.o,show bs+1+((k+1:Nat):Int)=bs+1+(k:Int)+1 from by omega]⟩⟩
      |false=>
       have HE:=HRS rfl
       clear HRN HRS
       go_wp2_with fail
       refine(Ot f _ _ (HS1.o.bel HB5.o)).mono ?_
       rintro e w6 ⟨b,rfl,hb,hbc,hbb⟩
       have HB6:=Q0 (Q5 HB5.o hbb)
       have HBC:=Q0 hbc
       have hz:=up HB6.o HZ1.o
       obtain⟨q0,q1,q2⟩:=X7 hz
       have z0:=Q2 hz 0
       have z1:=Q2 hz 1
       have z2:=Q2 hz 2
       have lz:=Q6 hz
       have hne:b≠b6:=by have:=HB5.o.size;omega
       clear hbc hbb hz
       go_wp2
       refine bodyPost_ret (v:=.tuple #[.agg fd0,Ed b]) (by simp[results,Tryz.results8,go_sem,q0,q1,q2]) rfl ⟨.inl ⟨_,b,by rw[HE.o],rfl,by have:=HB5.o.size;have:=HB1.o.size;omega,Jr.at HBC.o hne⟩,?_⟩
       exact Jy (Q5 HB1.o HB6.o) H6.o
     ·have hle:decide (bs+1+(k:Int)<=bs+L.length)=false:=decide_eq_false (by omega)
      have HAE:Sc (res=Y7 (bs+L.length) (none,s)):=⟨by rw[<-HRES.o,HA.o,show k=L.length from by omega,Q5h]⟩
      obtain⟨f0,f4⟩:=HF3.o.cells
      have lf:=HF3.o.lt
      clear hw1 HA
      cases hins:s.ins with
      |true=>
       rw[hins]at f4
       have HE:Sc (res=(some (bs+L.length+1),An.zero false)):=⟨by rw[HAE.o,Q7s hins]⟩
       have hwl:IntKind.i64.wrap (bs+L.length+1)=bs+L.length+1:=IntWalk.i64_in _ ⟨by omega,by omega⟩
       clear hins
       go_wp2_with fail
       refine(Jx _ lb row L bs (HL1.o.bel HB3.o) hlen' h0 h1').mono ?_
       rintro e w4 ⟨rfl,hb⟩
       have HB5:=Q0 (Q5 HB3.o hb)
       clear hb HB3 HF3 f0 f4
       go_wp2_with fail
       refine(Ot f _ _ (HS1.o.bel HB5.o)).mono ?_
       rintro e w6 ⟨b,rfl,hb,hbc,hbb⟩
       have HB6:=Q0 (Q5 HB5.o hbb)
       have HBC:=Q0 hbc
       have hz:=up HB6.o HZ1.o
       obtain⟨q0,q1,q2⟩:=X7 hz
       have z0:=Q2 hz 0
       have z1:=Q2 hz 1
       have z2:=Q2 hz 2
       have lz:=Q6 hz
       have hne:b≠b6:=by have:=HB5.o.size;omega
       clear hbc hbb hz
       go_wp2
       refine bodyPost_ret (v:=.tuple #[.agg fd0,Ed b]) (by simp[results,Tryz.results8,go_sem,q0,q1,q2]) rfl ⟨.inl ⟨_,b,by rw[HE.o],rfl,by have:=HB5.o.size;have:=HB1.o.size;omega,Jr.at HBC.o hne⟩,?_⟩
       exact Jy (Q5 HB1.o HB6.o) H6.o
      |false=>
       rw[hins]at f4
       have HE:Sc (res=(none,s)):=⟨by rw[HAE.o,Q7t hins]⟩
       clear hins
       go_wp2_with fail
       have HZ3:=Q0 ((HB3.o.block b6 hl6).trans HZ1.o)
       have HB6L:Sc (b6<w3.heap.size):=⟨Q6 HZ3.o⟩
       have HBW:=Q0 (Q5 HB1.o HB3.o)
       have HQ:Sc (Below w3.heap.size w3 w3):=⟨Below.refl _ _⟩
       have CT:∀X,Below w3.heap.size w3 X->Calls Tryz.prog 33 #[.pointer (some ⟨fb,1,none⟩)] X fun e w'=>∃vt,e=.returned vt/\Own Qg 4 58 w3.heap.size w' vt s.t/\Below w3.heap.size w3 w'/\Below X.heap.size X w':=fun X hX=>(Y4m X (HF3.o.bel hX) (by omega)).mono fun e w' ⟨vt,he,ho,hb⟩=>⟨vt,he,ho.mono hX.size,hX.trans (hb.mono hX.size),hb⟩
       have CD:∀X,Below w3.heap.size w3 X->Calls Tryz.prog 34 #[.pointer (some ⟨fb,3,none⟩)] X fun e w'=>∃vt,e=.returned vt/\Own Qj 2 60 w3.heap.size w' vt s.d/\Below w3.heap.size w3 w'/\Below X.heap.size X w':=fun X hX=>(Y4l X (HF3.o.bel hX) (by omega)).mono fun e w' ⟨vt,he,ho,hb⟩=>⟨vt,he,ho.mono hX.size,hX.trans (hb.mono hX.size),hb⟩
       have CM:∀X,Below w3.heap.size w3 X->Calls Tryz.prog 35 #[.pointer (some ⟨fb,1,none⟩)] X fun e w'=>e=.returned (.int .i64 s.m)/\X=w':=fun X hX=>Y4p X (HF3.o.bel hX)
       clear f0 f4 hle hst hsd hkx hk hlt hi0 hl6
       go_region_law (first|(go_simp;go_at_call 33;refine(CT _ (by first|exact HQ.o|exact HQ.o.drew)).mono ?_;rintro e wt ⟨vt,rfl,ho,hq,hb⟩;obtain⟨At,nt,ct,rfl⟩:=ho.slice3;(first|(have HVD:=Q0 (HVD.o.below hb))|(have HVD:=Q0 (HVD.o.drew.below hb))|skip);have HQ:=Q0 hq;have HVT:=Q0 ho;have hz:=(HQ.o.block b6 HB6L.o).trans HZ3.o;obtain⟨q0,q1,q2⟩:=X7 hz;have z0:=Q2 hz 0;have z1:=Q2 hz 1;have z2:=Q2 hz 2;have lz:=Q6 hz;clear hz;clear ho hq hb)|(go_simp;go_at_call 34;refine(CD _ (by first|exact HQ.o|exact HQ.o.drew)).mono ?_;rintro e wt ⟨vd,rfl,ho,hq,hb⟩;obtain⟨Ad,nd,cd,rfl⟩:=ho.slice3;(first|(have HVT:=Q0 (HVT.o.below hb))|(have HVT:=Q0 (HVT.o.drew.below hb))|skip);have HQ:=Q0 hq;have HVD:=Q0 ho;have hz:=(HQ.o.block b6 HB6L.o).trans HZ3.o;obtain⟨q0,q1,q2⟩:=X7 hz;have z0:=Q2 hz 0;have z1:=Q2 hz 1;have z2:=Q2 hz 2;have lz:=Q6 hz;clear hz;clear ho hq hb)|(go_simp;go_at_call 35;refine(CM _ (by first|exact HQ.o|exact HQ.o.drew)).mono ?_;rintro e wt ⟨rfl,rfl⟩))
       all_goals
        clear CT CD CM
        go_wp2
        refine bodyPost_ret (v:=.tuple #[.agg #[.slice At nt ct,.slice Ad nd cd,.int .i64 s.m],.nilIface]) (by simp[results,Tryz.results8,go_sem,q0,q1,q2]) rfl ⟨.inr ⟨.slice At nt ct,.slice Ad nd cd,by rw[HE.o],by rw[HE.o],?_,?_⟩,?_⟩
        ·rw[HE.o];exact((HVT.o.kp (S:=fun q=>q=b6) Jr (fun q hq he=>by have:=(HVT.o.lt q hq).1;have:=HB6L.o;omega)).mono HBW.o.size)
        ·rw[HE.o];exact((HVD.o.kp (S:=fun q=>q=b6) Jr (fun q hq he=>by have:=(HVD.o.lt q hq).1;have:=HB6L.o;omega)).mono HBW.o.size)
        ·first|exact Jy (Q5 HBW.o HQ.o) H6.o|exact Jy (Q5 HBW.o HQ.o).drew H6.o
end
end Go.Proofs.YtoapihepdallbaaGreatDoor
