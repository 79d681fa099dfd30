import Derived.Test.YtoapihepdallbaaGreatDoorP07
namespace Go.Proofs.YtoapihepdallbaaGreatDoor
open Go.RowKit
section
set_option maxHeartbeats 2000000
set_option maxRecDepth 4000
theorem O2(w:World)(n lo hi:Int):Calls Tryz.prog 115 #[.int .i64 n,.int .i64 lo,.int .i64 hi] w fun e w'=>e=.returned (.bool (inR n lo hi))/\w'=w:=by
 by_cases h:lo<=n
 ·have h1:decide (lo<=n)=true:=decide_eq_true h
  have HI:Sc (inR n lo hi=decide (n<=hi)):=⟨by unfold inR;rw[h1,Bool.true_and]⟩
  rw[HI.o]
  clear h
  go_enter Tryz.func115,Tryz.ntmps115
  go_wp2
  go_ret
  exact⟨rfl,rfl⟩
 ·have h1:decide (lo<=n)=false:=decide_eq_false h
  have HI:Sc (inR n lo hi=false):=⟨by unfold inR;rw[h1,Bool.false_and]⟩
  rw[HI.o]
  clear h
  go_enter Tryz.func115,Tryz.ntmps115
  go_wp2
  go_ret
  exact⟨rfl,rfl⟩
theorem Ql{x y:Int}(h:x≠y):(x==y)=false:=by simp[h]
theorem Yd(x y:Int):(x==y)=decide (x=y):=by
 by_cases h:x=y
 ·simp[h]
 ·simp[h]
theorem X2q(w:World)(r:Q9):Calls Tryz.prog 116 #[Yg r] w fun e w'=>e=.returned (.bool (Z7 r))/\Below w.heap.size w w':=by
 have HB:Sc (Below w.heap.size w (w.alloc (.cells (Qe r) 49))):=⟨Q3 (Below.refl _ _) _⟩
 obtain⟨kind,txn,page,prev,next,key,had,has,old,new⟩:=r
 by_cases h:kind=1\/kind=7\/kind=10
 ·have HP:Sc (Z7 ⟨kind,txn,page,prev,next,key,had,has,old,new⟩=(prev==0)):=⟨by unfold Z7;rw[if_pos h,Yd]⟩
  rw[HP.o]
  rcases h with rfl|rfl|rfl
  all_goals
   go_enter Tryz.func116,Tryz.ntmps116
   go_wp2
   go_ret
   exact⟨rfl,HB.o⟩
 ·have h1:(kind==1)=false:=Ql (fun he=>h (.inl he))
  have h7:(kind==7)=false:=Ql (fun he=>h (.inr (.inl he)))
  have h10:(kind==10)=false:=Ql (fun he=>h (.inr (.inr he)))
  by_cases h9:kind=9
  ·have HP:Sc (Z7 ⟨kind,txn,page,prev,next,key,had,has,old,new⟩=inR prev 1 1073741824):=⟨by unfold Z7;rw[if_neg h,if_pos h9]⟩
   rw[HP.o]
   subst h9
   clear h
   go_enter Tryz.func116,Tryz.ntmps116
   go_wp2_with (go_at_call 115;refine(O2 _ _ _ _).mono ?_;rintro e w' ⟨rfl,rfl⟩)
   go_ret
   exact⟨rfl,HB.o⟩
  ·have HP:Sc (Z7 ⟨kind,txn,page,prev,next,key,had,has,old,new⟩=inR prev 0 1073741824):=⟨by unfold Z7;rw[if_neg h,if_neg h9]⟩
   rw[HP.o]
   have h9':(kind==9)=false:=Ql h9
   clear h h9
   go_enter Tryz.func116,Tryz.ntmps116
   go_wp2_with (go_at_call 115;refine(O2 _ _ _ _).mono ?_;rintro e w' ⟨rfl,rfl⟩)
   go_ret
   exact⟨rfl,HB.o⟩
theorem X2p(w:World)(r:Q9):Calls Tryz.prog 117 #[Yg r] w fun e w'=>e=.returned (.bool (Z6 r))/\Below w.heap.size w w':=by
 have HB:Sc (Below w.heap.size w (w.alloc (.cells (Qe r) 49))):=⟨Q3 (Below.refl _ _) _⟩
 obtain⟨kind,txn,page,prev,next,key,had,has,old,new⟩:=r
 by_cases h:kind=3\/kind=8
 ·have HP:Sc (Z6 ⟨kind,txn,page,prev,next,key,had,has,old,new⟩=inR next 0 1073741824):=⟨by unfold Z6;rw[if_pos h]⟩
  rw[HP.o]
  rcases h with rfl|rfl
  all_goals
   go_enter Tryz.func117,Tryz.ntmps117
   go_wp2_with (go_at_call 115;refine(O2 _ _ _ _).mono ?_;rintro e w' ⟨rfl,rfl⟩)
   go_ret
   exact⟨rfl,HB.o⟩
 ·have h3:(kind==3)=false:=Ql (fun he=>h (.inl he))
  have h8:(kind==8)=false:=Ql (fun he=>h (.inr he))
  by_cases h10:kind=10
  ·have HP:Sc (Z6 ⟨kind,txn,page,prev,next,key,had,has,old,new⟩=inR next 0 60000):=⟨by unfold Z6;rw[if_neg h,if_pos h10]⟩
   rw[HP.o]
   subst h10
   clear h
   go_enter Tryz.func117,Tryz.ntmps117
   go_wp2_with (go_at_call 115;refine(O2 _ _ _ _).mono ?_;rintro e w' ⟨rfl,rfl⟩)
   go_ret
   exact⟨rfl,HB.o⟩
  ·have HP:Sc (Z6 ⟨kind,txn,page,prev,next,key,had,has,old,new⟩=(next==0)):=⟨by unfold Z6;rw[if_neg h,if_neg h10,Yd]⟩
   rw[HP.o]
   have h10':(kind==10)=false:=Ql h10
   clear h h10
   go_enter Tryz.func117,Tryz.ntmps117
   go_wp2
   go_ret
   exact⟨rfl,HB.o⟩
theorem X5y(w:World)(r:Q9):Calls Tryz.prog 118 #[Yg r] w fun e w'=>e=.returned (.bool (Va r))/\Below w.heap.size w w':=by
 have HB:Sc (Below w.heap.size w (w.alloc (.cells (Qe r) 49))):=⟨Q3 (Below.refl _ _) _⟩
 obtain⟨kind,txn,page,prev,next,key,had,has,old,new⟩:=r
 by_cases h:kind=2\/kind=3
 ·have HP:Sc (Va ⟨kind,txn,page,prev,next,key,had,has,old,new⟩=inR key 0 1048575):=⟨by unfold Va;rw[if_pos h]⟩
  rw[HP.o]
  rcases h with rfl|rfl
  all_goals
   go_enter Tryz.func118,Tryz.ntmps118
   go_wp2_with (go_at_call 115;refine(O2 _ _ _ _).mono ?_;rintro e w' ⟨rfl,rfl⟩)
   go_ret
   exact⟨rfl,HB.o⟩
 ·have h2:(kind==2)=false:=Ql (fun he=>h (.inl he))
  have h3:(kind==3)=false:=Ql (fun he=>h (.inr he))
  by_cases h8:kind=8
  ·have HP:Sc (Va ⟨kind,txn,page,prev,next,key,had,has,old,new⟩=inR key 0 2):=⟨by unfold Va;rw[if_neg h,if_pos h8]⟩
   rw[HP.o]
   subst h8
   clear h
   go_enter Tryz.func118,Tryz.ntmps118
   go_wp2_with (go_at_call 115;refine(O2 _ _ _ _).mono ?_;rintro e w' ⟨rfl,rfl⟩)
   go_ret
   exact⟨rfl,HB.o⟩
  ·have HP:Sc (Va ⟨kind,txn,page,prev,next,key,had,has,old,new⟩=(key==0)):=⟨by unfold Va;rw[if_neg h,if_neg h8,Yd]⟩
   rw[HP.o]
   have h8':(kind==8)=false:=Ql h8
   clear h h8
   go_enter Tryz.func118,Tryz.ntmps118
   go_wp2
   go_ret
   exact⟨rfl,HB.o⟩
theorem Q6m(w:World)(r:Q9):Calls Tryz.prog 119 #[Yg r] w fun e w'=>e=.returned (.bool (Qk r))/\Below w.heap.size w w':=by
 have HB:Sc (Below w.heap.size w (w.alloc (.cells (Qe r) 49))):=⟨Q3 (Below.refl _ _) _⟩
 obtain⟨kind,txn,page,prev,next,key,had,has,old,new⟩:=r
 by_cases h1:has=false/\new≠0
 ·obtain⟨rfl,h1⟩:=h1
  have HP:Sc (Qk ⟨kind,txn,page,prev,next,key,had,false,old,new⟩=false):=⟨by unfold Qk;rw[if_pos (.inl ⟨rfl,h1⟩)]⟩
  rw[HP.o]
  have hb:=Ql h1
  clear h1
  go_enter Tryz.func119,Tryz.ntmps119
  go_wp2
  go_ret
  exact⟨rfl,HB.o⟩
 ·by_cases h2:had=false/\old≠0
  ·obtain⟨rfl,h2⟩:=h2
   have HP:Sc (Qk ⟨kind,txn,page,prev,next,key,false,has,old,new⟩=false):=⟨by unfold Qk;rw[if_pos (.inr ⟨rfl,h2⟩)]⟩
   rw[HP.o]
   have hb:=Ql h2
   cases has with
   |true=>
    clear h1 h2
    go_enter Tryz.func119,Tryz.ntmps119
    go_wp2
    go_ret
    exact⟨rfl,HB.o⟩
   |false=>
    obtain rfl:new=0:=by simpa using h1
    clear h1 h2
    go_enter Tryz.func119,Tryz.ntmps119
    go_wp2
    go_ret
    exact⟨rfl,HB.o⟩
  ·have HV:Sc (∀k,Qk ⟨k,txn,page,prev,next,key,had,has,old,new⟩=if k=2 then had||has else if k=3 then had&&(decide (1<=old)&&decide (old<=1073741824)) else !had&& !has):=⟨fun k=>by
    unfold Qk
    rw[if_neg (fun h=>h.elim h1 h2)]⟩
   have hn:has=false->new=0:=fun h=>by simpa [h] using h1
   have ho:had=false->old=0:=fun h=>by simpa [h] using h2
   clear h1 h2
   by_cases k2:kind=2
   ·subst k2
    have HP:=Q0 (HV.o 2)
    rw[if_pos rfl]at HP
    rw[HP.o]
    cases has<;>cases had
    all_goals
     (try obtain rfl:=hn rfl)
     (try obtain rfl:=ho rfl)
     clear hn ho HV
     go_enter Tryz.func119,Tryz.ntmps119
     go_wp2
     go_ret
     exact⟨rfl,HB.o⟩
   ·by_cases k3:kind=3
    ·subst k3
     have HP:=Q0 (HV.o 3)
     rw[if_neg (by omega),if_pos rfl]at HP
     rw[HP.o]
     by_cases g1:1<=old
     ·have g1':decide (1<=old)=true:=decide_eq_true g1
      have g0:(old==0)=false:=Ql (by omega)
      rw[g1',Bool.true_and]
      clear g1
      cases has<;>cases had
      all_goals
       (try obtain rfl:=hn rfl)
       (try obtain rfl:=ho rfl)
       (try (exact absurd g0 (by decide)))
      all_goals
       clear hn ho HV
       go_enter Tryz.func119,Tryz.ntmps119
       go_wp2
       go_ret
       exact⟨rfl,HB.o⟩
     ·have g1':decide (1<=old)=false:=decide_eq_false g1
      rw[g1',Bool.false_and,Bool.and_false]
      clear g1
      cases has<;>cases had
      all_goals
       (try obtain rfl:=hn rfl)
       (try obtain rfl:=ho rfl)
       clear hn ho HV
       go_enter Tryz.func119,Tryz.ntmps119
       go_wp2
       go_ret
       exact⟨rfl,HB.o⟩
    ·have HP:=Q0 (HV.o kind)
     rw[if_neg k2,if_neg k3]at HP
     rw[HP.o]
     have b2:=Ql k2
     have b3:=Ql k3
     clear k2 k3
     cases has<;>cases had
     all_goals
      (try obtain rfl:=hn rfl)
      (try obtain rfl:=ho rfl)
      clear hn ho HV
      go_enter Tryz.func119,Tryz.ntmps119
      go_wp2
      go_ret
      exact⟨rfl,HB.o⟩
end
theorem Q3s.get{W:World}{f:Nat->Addr}(h:V1 W f):W.cell? ⟨2,0,none⟩=some (Zw (f 1)):=h.cell 1 (by omega)
set_option maxRecDepth 4000 in
set_option maxHeartbeats 2000000 in
theorem X0a(f:Nat->Addr)(w:World)(r:Q9)(hS:V1 w f):Calls Tryz.prog 71 #[Yg r] w fun e w'=>e=.returned (if Qq r=true then .nilIface else Zw (f 1))/\Below w.heap.size w w':=by
 obtain⟨res,hres⟩:∃res,(if Qq r=true then Value.nilIface else Zw (f 1))=res:=⟨_,rfl⟩
 rw[hres]
 have HRES:=Q0 hres
 clear hres
 have hz:=heap_alloc_new w (.cells (Qe r) 49)
 obtain⟨w1,hw1⟩:∃w1,w.alloc (.cells (Qe r) 49)=w1:=⟨_,rfl⟩
 have HB1:Sc (Below w.heap.size w w1):=⟨hw1▸Q3 (Below.refl _ _) _⟩
 obtain⟨b1,hb1⟩:∃b,w.heap.size=b:=⟨_,rfl⟩
 rw[hw1,hb1]at hz
 have HZ:=Q0 hz
 have HS1:=Q0 (hS.bel HB1.o)
 have HG:Sc (Qq r=(inR r.kind 1 10&&inR r.txn (min (Yv r) 1) (Yv r)&&inR r.page (min (Xi r) 1) (Xi r)&&Z7 r&&Z6 r&&Va r&&Qk r)):=⟨rfl⟩
 obtain⟨t,ht⟩:∃t,Yv r=t:=⟨_,rfl⟩
 obtain⟨p,hp⟩:∃p,Xi r=p:=⟨_,rfl⟩
 rw[ht,hp]at HG
 obtain⟨g1,hg1⟩:∃g,inR r.kind 1 10=g:=⟨_,rfl⟩
 obtain⟨g2,hg2⟩:∃g,inR r.txn (min t 1) t=g:=⟨_,rfl⟩
 obtain⟨g3,hg3⟩:∃g,inR r.page (min p 1) p=g:=⟨_,rfl⟩
 obtain⟨g4,hg4⟩:∃g,Z7 r=g:=⟨_,rfl⟩
 obtain⟨g5,hg5⟩:∃g,Z6 r=g:=⟨_,rfl⟩
 obtain⟨g6,hg6⟩:∃g,Va r=g:=⟨_,rfl⟩
 obtain⟨g7,hg7⟩:∃g,Qk r=g:=⟨_,rfl⟩
 rw[hg1,hg2,hg3,hg4,hg5,hg6,hg7]at HG
 have HH:=Q0 (And.intro hg1 (And.intro hg2 (And.intro hg3 (And.intro hg4 (And.intro hg5 (And.intro hg6 hg7))))))
 obtain⟨q1,hq1⟩:∃q:Bool,(q=true↔((1<=r.kind/\r.kind<=6)\/r.kind=8)):=⟨decide _,decide_eq_true_iff⟩
 obtain⟨q2,hq2⟩:∃q:Bool,(q=true↔(r.kind=2\/r.kind=3\/r.kind=9)):=⟨decide _,decide_eq_true_iff⟩
 have HT:Sc (t=if q1=true then 60000 else 0):=⟨by
  rw[<-ht];unfold Yv
  by_cases h:(1<=r.kind/\r.kind<=6)\/r.kind=8
  ·rw[if_pos h,if_pos (hq1.2 h)]
  ·rw[if_neg h,if_neg (fun h'=>h (hq1.1 h'))]⟩
 have HP:Sc (p=if q2=true then 32 else 0):=⟨by
  rw[<-hp];unfold Xi
  by_cases h:r.kind=2\/r.kind=3\/r.kind=9
  ·rw[if_pos h,if_pos (hq2.2 h)]
  ·rw[if_neg h,if_neg (fun h'=>h (hq2.1 h'))]⟩
 have HQ1:=Q0 hq1
 have HQ2:=Q0 hq2
 have hge:=Q3s.get HS1.o
 obtain⟨c0,c1,c2,c3,c4,c5,c6,c7,c8,c9⟩:=Qb HZ.o
 clear hS hz ht hp hg1 hg2 hg3 hg4 hg5 hg6 hg7 hq1 hq2
 go_enter Tryz.func71,Tryz.ntmps71
 go_upto_region 2 with fail
 clear hw1 hb1
 go_cut [12] from 5 to 11 (fun s12 wx=>s12=.bool q1/\wx=w1)
 case first=>
  go_wp2_with fail
  refine(O2 _ _ _ _).mono ?_
  rintro e w' ⟨rfl,rfl⟩
  cases hi:inR r.kind 1 6 with
  |true=>
   have HI:Sc (q1=true):=⟨HQ1.o.2 (.inl (by unfold inR at hi;simpa using hi))⟩
   clear hi
   go_wp2_with fail
   go_meet
   case rel=>exact⟨by rw[HI.o],rfl⟩
  |false=>
   have hne:¬(1<=r.kind/\r.kind<=6):=fun h=>by unfold inR at hi;simp[h.1,h.2]at hi
   by_cases h8:r.kind=8
   ·have h8':(r.kind==8)=true:=by simp[h8]
    have HI:Sc (q1=true):=⟨HQ1.o.2 (.inr h8)⟩
    clear hi hne h8
    go_wp2_with fail
    go_meet
    case rel=>exact⟨by rw[HI.o],rfl⟩
   ·have h8':(r.kind==8)=false:=Ql h8
    have HI:Sc (q1=false):=⟨by
     cases q1 with
     |false=>rfl
     |true=>exact absurd (HQ1.o.1 rfl) (fun h=>h.elim hne h8)⟩
    clear hi hne h8
    go_wp2_with fail
    go_meet
    case rel=>exact⟨by rw[HI.o],rfl⟩
 case rest=>
  obtain⟨rfl,rfl⟩:=hcut
  go_upto_if 12 with fail
  go_cut [3] from 12 to 12 (fun s3 wx=>s3=.int .i64 t/\wx=wc)
  case first=>
   cases q1 with
   |true=>
    obtain rfl:t=60000:=HT.o
    go_wp2_with fail
    go_meet
    case rel=>exact⟨rfl,rfl⟩
   |false=>
    obtain rfl:t=0:=HT.o
    go_wp2_with fail
    go_meet
    case rel=>exact⟨rfl,rfl⟩
  case rest=>
   obtain⟨rfl,rfl⟩:=hcut
   go_upto_region 4 with fail
   go_cut [25] from 13 to 24 (fun s25 wx=>s25=.bool q2/\wx=wc)
   case first=>
    by_cases h2:r.kind=2
    ·have b2:(r.kind==2)=true:=by simp[h2]
     have HI:Sc (q2=true):=⟨HQ2.o.2 (.inl h2)⟩
     clear h2
     go_wp2_with fail
     go_meet
     case rel=>exact⟨by rw[HI.o],rfl⟩
    ·have b2:(r.kind==2)=false:=Ql h2
     by_cases h3:r.kind=3
     ·have b3:(r.kind==3)=true:=by simp[h3]
      have HI:Sc (q2=true):=⟨HQ2.o.2 (.inr (.inl h3))⟩
      clear h2 h3
      go_wp2_with fail
      go_meet
      case rel=>exact⟨by rw[HI.o],rfl⟩
     ·have b3:(r.kind==3)=false:=Ql h3
      have HI:Sc (q2=(r.kind==9)):=⟨by
       by_cases h9:r.kind=9
       ·rw[HQ2.o.2 (.inr (.inr h9)),h9];rfl
       ·rw[Ql h9]
        cases q2 with
        |false=>rfl
        |true=>exact absurd (HQ2.o.1 rfl) (fun h=>h.elim h2 (fun h=>h.elim h3 h9))⟩
      clear h2 h3
      go_wp2_with fail
      go_meet
      case rel=>exact⟨by rw[HI.o],rfl⟩
   case rest=>
    obtain⟨rfl,rfl⟩:=hcut
    go_upto_if 25 with fail
    go_cut [4] from 25 to 25 (fun s4 wx=>s4=.int .i64 p/\wx=wc)
    case first=>
     cases q2 with
     |true=>
      obtain rfl:p=32:=HP.o
      go_wp2_with fail
      go_meet
      case rel=>exact⟨rfl,rfl⟩
     |false=>
      obtain rfl:p=0:=HP.o
      go_wp2_with fail
      go_meet
      case rel=>exact⟨rfl,rfl⟩
    case rest=>
     obtain⟨rfl,rfl⟩:=hcut
     have hmt:(if(1:Int)<t then(1:Int) else t)=min t 1:=by omega
     have hmp:(if(1:Int)<p then(1:Int) else p)=min p 1:=by omega
     go_wp2_with fail
     refine(O2 _ _ _ _).mono ?_
     rintro e w' ⟨rfl,rfl⟩
     rw[HH.o.1]
     cases g1 with
     |false=>
      have HF:Sc (Qq r=false):=⟨by rw[HG.o];simp⟩
      go_wp2
      go_ret
      exact⟨by rw[<-HRES.o,HF.o];rfl,HB1.o⟩
     |true=>
      go_wp2_with fail
      refine(O2 _ _ _ _).mono ?_
      rintro e w' ⟨rfl,rfl⟩
      rw[HH.o.2.1]
      cases g2 with
      |false=>
       have HF:Sc (Qq r=false):=⟨by rw[HG.o];simp⟩
       go_wp2
       go_ret
       exact⟨by rw[<-HRES.o,HF.o];rfl,HB1.o⟩
      |true=>
       go_wp2_with fail
       refine(O2 _ _ _ _).mono ?_
       rintro e w' ⟨rfl,rfl⟩
       rw[HH.o.2.2.1]
       cases g3 with
       |false=>
        have HF:Sc (Qq r=false):=⟨by rw[HG.o];simp⟩
        go_wp2
        go_ret
        exact⟨by rw[<-HRES.o,HF.o];rfl,HB1.o⟩
       |true=>
        clear hmt hmp
        go_wp2_with fail
        refine(X2q _ r).mono ?_
        rw[HH.o.2.2.2.1]
        rintro e v0 ⟨rfl,hb⟩
        have HBv0:Sc (Below w.heap.size w v0):=⟨Q5 HB1.o hb⟩
        have HZv0:=Q0 (up hb HZ.o)
        have HSv0:=Q0 (HS1.o.bel hb)
        have hge:=Q3s.get HSv0.o
        clear hb c0 c1 c2 c3 c4 c5 c6 c7 c8 c9
        obtain⟨c0,c1,c2,c3,c4,c5,c6,c7,c8,c9⟩:=Qb HZv0.o
        cases g4 with
        |false=>
         have HF:Sc (Qq r=false):=⟨by rw[HG.o];simp⟩
         go_wp2
         go_ret
         exact⟨by rw[<-HRES.o,HF.o];rfl,HBv0.o⟩
        |true=>
         go_wp2_with fail
         refine(X2p _ r).mono ?_
         rw[HH.o.2.2.2.2.1]
         rintro e v1 ⟨rfl,hb⟩
         have HBv1:Sc (Below w.heap.size w v1):=⟨Q5 HBv0.o hb⟩
         have HZv1:=Q0 (up hb HZv0.o)
         have HSv1:=Q0 (HSv0.o.bel hb)
         have hge:=Q3s.get HSv1.o
         clear hb c0 c1 c2 c3 c4 c5 c6 c7 c8 c9
         obtain⟨c0,c1,c2,c3,c4,c5,c6,c7,c8,c9⟩:=Qb HZv1.o
         cases g5 with
         |false=>
          have HF:Sc (Qq r=false):=⟨by rw[HG.o];simp⟩
          go_wp2
          go_ret
          exact⟨by rw[<-HRES.o,HF.o];rfl,HBv1.o⟩
         |true=>
          go_wp2_with fail
          refine(X5y _ r).mono ?_
          rw[HH.o.2.2.2.2.2.1]
          rintro e v2 ⟨rfl,hb⟩
          have HBv2:Sc (Below w.heap.size w v2):=⟨Q5 HBv1.o hb⟩
          have HZv2:=Q0 (up hb HZv1.o)
          have HSv2:=Q0 (HSv1.o.bel hb)
          have hge:=Q3s.get HSv2.o
          clear hb c0 c1 c2 c3 c4 c5 c6 c7 c8 c9
          obtain⟨c0,c1,c2,c3,c4,c5,c6,c7,c8,c9⟩:=Qb HZv2.o
          cases g6 with
          |false=>
           have HF:Sc (Qq r=false):=⟨by rw[HG.o];simp⟩
           go_wp2
           go_ret
           exact⟨by rw[<-HRES.o,HF.o];rfl,HBv2.o⟩
          |true=>
           go_wp2_with fail
           refine(Q6m _ r).mono ?_
           rw[HH.o.2.2.2.2.2.2]
           rintro e v3 ⟨rfl,hb⟩
           have HBv3:Sc (Below w.heap.size w v3):=⟨Q5 HBv2.o hb⟩
           have HZv3:=Q0 (up hb HZv2.o)
           have HSv3:=Q0 (HSv2.o.bel hb)
           have hge:=Q3s.get HSv3.o
           clear hb c0 c1 c2 c3 c4 c5 c6 c7 c8 c9
           obtain⟨c0,c1,c2,c3,c4,c5,c6,c7,c8,c9⟩:=Qb HZv3.o
           cases g7 with
           |false=>
            have HF:Sc (Qq r=false):=⟨by rw[HG.o];simp⟩
            go_wp2
            go_ret
            exact⟨by rw[<-HRES.o,HF.o];rfl,HBv3.o⟩
           |true=>
            have HF:Sc (Qq r=true):=⟨by rw[HG.o];rfl⟩
            go_wp2
            go_ret
            exact⟨by rw[<-HRES.o,HF.o];rfl,HBv3.o⟩
theorem Zg{w:World}{b:Nat}{t:TypeId}(h:w.heap[b]? =some (.cells (Qe Z9) t (0,0))):w.frozen? ⟨b,0,none⟩=false/\w.frozen? ⟨b,1,none⟩=false/\w.frozen? ⟨b,2,none⟩=false/\w.frozen? ⟨b,3,none⟩=false/\w.frozen? ⟨b,4,none⟩=false/\w.frozen? ⟨b,5,none⟩=false/\w.frozen? ⟨b,6,none⟩=false/\w.frozen? ⟨b,7,none⟩=false/\w.frozen? ⟨b,8,none⟩=false/\w.frozen? ⟨b,9,none⟩=false:=
 ⟨Q2 h 0,Q2 h 1,Q2 h 2,Q2 h 3,Q2 h 4,Q2 h 5,Q2 h 6,Q2 h 7,Q2 h 8,Q2 h 9⟩
theorem Xp{w0 w:World}{b:Nat}{u0 u1 u2 u3 u4 u5 u6 u7 u8 u9:Value}(h:Below w0.heap.size w0 w)(hb:w0.heap.size<=b):Below w0.heap.size w0 ((((((((((w.setCell ⟨b,0,none⟩ u0).setCell ⟨b,1,none⟩ u1).setCell ⟨b,2,none⟩ u2).setCell ⟨b,3,none⟩ u3).setCell ⟨b,4,none⟩ u4).setCell ⟨b,5,none⟩ u5).setCell ⟨b,6,none⟩ u6).setCell ⟨b,7,none⟩ u7).setCell ⟨b,8,none⟩ u8).setCell ⟨b,9,none⟩ u9):=
 (((((((((h.setCell hb _).setCell hb _).setCell hb _).setCell hb _).setCell hb _).setCell hb _).setCell hb _).setCell hb _).setCell hb _).setCell hb _
theorem Gr{L:List Q9}{bs lsn:Int}{i:Nat}(h:lsn=bs+1+i)(hi:i<L.length):Qx L bs lsn=L[i]? :=by
 unfold Qx
 rw[if_pos ⟨by omega,by omega⟩,show(lsn - bs - 1).toNat=i by omega]
theorem Ge{L:List Q9}{bs lsn:Int}(h:lsn<=bs\/bs+L.length<lsn):Qx L bs lsn=none:=by
 unfold Qx
 rw[if_neg (by omega)]
set_option maxRecDepth 4000 in
set_option maxHeartbeats 2000000 in
theorem Cj(w:World)(lb:Nat)(row:Option Nat)(L:List Q9)(bs lsn:Int)(h:Vu w lb row L bs)(hlen:L.length<=1000000)(h0:0<=bs)(h1:bs<=1000000):
  Calls Tryz.prog 30 #[.pointer (some ⟨lb,0,none⟩),.int .i64 lsn] w fun e w'=>e=.returned (.tuple #[Yg ((Qx L bs lsn).getD Z9),.bool (Qx L bs lsn).isSome])/\Below w.heap.size w w':=by
 have HB1:Sc (Below w.heap.size w (w.alloc (.cells (Qe Z9) 49))):=⟨Q3 (Below.refl _ _) _⟩
 have HL1:=Q0 (h.bel HB1.o)
 have HZ1:=Q0 (heap_alloc_new w (.cells (Qe Z9) 49))
 obtain⟨w1,hw1⟩:∃w1,w.alloc (.cells (Qe Z9) 49)=w1:=⟨_,rfl⟩
 rw[hw1]at HB1 HL1 HZ1
 obtain⟨⟨dp,A,s,c,hv,hc,hown⟩,hap⟩:=HL1.o
 have HC:=Q0 hc
 have HO:=Q0 hown
 obtain⟨c2,c3,c5⟩:=Ga hc
 have hs:=hown.len
 have ha:w.heap.size<=w.heap.size:=Nat.le_refl _
 have lc:=Q6 hc
 clear hv hc hown hap h
 by_cases hlo:lsn<=bs
 ·have hd:decide (lsn<=bs)=true:=decide_eq_true hlo
  have HR:Sc (Qx L bs lsn=none):=⟨Ge (.inl hlo)⟩
  rw[HR.o]
  obtain⟨q0,q1,q2,q3,q4,q5,q6,q7,q8,q9⟩:=Qb HZ1.o
  obtain⟨z0,z1,z2,z3,z4,z5,z6,z7,z8,z9⟩:=Zg HZ1.o
  have lz:=Q6 HZ1.o
  clear hlo
  go_enter Tryz.func30,Tryz.ntmps30
  go_wp2
  refine bodyPost_ret (v:=.tuple #[Yg Z9,.bool false]) (by simp[results,Tryz.results30,go_sem,q0,q1,q2,q3,q4,q5,q6,q7,q8,q9]) rfl ⟨rfl,?_⟩
  exact Xp HB1.o ha
 ·have hd:decide (lsn<=bs)=false:=decide_eq_false hlo
  by_cases hhi:bs+(L.length:Int)<lsn
  ·have HR:Sc (Qx L bs lsn=none):=⟨Ge (.inr hhi)⟩
   rw[HR.o]
   clear hlo
   go_enter Tryz.func30,Tryz.ntmps30
   go_wp2_with fail
   clear hw1
   refine(Jx _ lb row L bs HL1.o hlen h0 h1).mono ?_
   rintro e w2 ⟨rfl,hb⟩
   have HB2:Sc (Below w.heap.size w w2):=⟨Q5 HB1.o hb⟩
   have hz:=up hb HZ1.o
   obtain⟨q0,q1,q2,q3,q4,q5,q6,q7,q8,q9⟩:=Qb hz
   obtain⟨z0,z1,z2,z3,z4,z5,z6,z7,z8,z9⟩:=Zg hz
   have lz:=Q6 hz
   clear hb hz
   go_wp2
   refine bodyPost_ret (v:=.tuple #[Yg Z9,.bool false]) (by simp[results,Tryz.results30,go_sem,q0,q1,q2,q3,q4,q5,q6,q7,q8,q9]) rfl ⟨rfl,?_⟩
   exact Xp HB2.o ha
  ·obtain⟨i,hi⟩:∃i:Nat,lsn=bs+1+i:=⟨(lsn - bs - 1).toNat,by omega⟩
   have hil:i<L.length:=by omega
   obtain⟨r,hr⟩:∃r,L[i]? =some r:=⟨_,List.getElem?_eq_getElem hil⟩
   have HR:Sc (Qx L bs lsn=some r):=⟨by rw[Gr hi hil,hr]⟩
   rw[HR.o]
   have hd2:¬bs+(L.length:Int)<lsn:=hhi
   have hw1':IntKind.i64.wrap (lsn - bs)=lsn - bs:=IntWalk.i64_in _ ⟨by omega,by omega⟩
   have hw2':IntKind.i64.wrap (lsn - bs - 1)=(i:Int):=by rw[IntWalk.i64_in _ ⟨by omega,by omega⟩];omega
   have his:(i:Int)<s:=by omega
   obtain⟨g,cq,he,_,_,_,_⟩:=HO.o.form (by omega)
   injection he with hA hK hCC
   subst hA
   have HRR:=Q0 hr
   clear hlo hhi hi hr hK hCC hs
   go_enter Tryz.func30,Tryz.ntmps30
   go_wp2_with fail
   clear hw1
   refine(Jx _ lb row L bs HL1.o hlen h0 h1).mono ?_
   rintro e w2 ⟨rfl,hb⟩
   have HB2:Sc (Below w.heap.size w w2):=⟨Q5 HB1.o hb⟩
   have hz:=up hb HZ1.o
   obtain⟨q0,q1,q2,q3,q4,q5,q6,q7,q8,q9⟩:=Qb hz
   obtain⟨z0,z1,z2,z3,z4,z5,z6,z7,z8,z9⟩:=Zg hz
   have lz:=Q6 hz
   obtain⟨e0,e1,e2,e3,e4,e5,e6,e7,e8,e9⟩:=(HO.o.below hb).Qe HRR.o
   obtain⟨d2,d3,d5⟩:=Ga (up hb HC.o)
   clear hb hz c2 c3 c5
   go_wp2_with fail
   go_region
   all_goals
    go_wp2
    refine bodyPost_ret (v:=.tuple #[Yg r,.bool true]) (by simp[results,Tryz.results30,go_sem,q0,q1,q2,q3,q4,q5,q6,q7,q8,q9]) rfl ⟨rfl,?_⟩
    first|exact X0 (Xp HB2.o ha) 1|exact Xp HB2.o ha|exact(Xp HB2.o ha).drew|exact Xp HB2.o.drew ha
section
set_option maxHeartbeats 1000000
set_option maxRecDepth 4000
structure G4(W:World)(lb:Nat)(row:Option Nat)(L:List Q9)(bs:Int):Prop where
 val:∃(dp A:Option Addr) (s c:Nat),(Value.slice A s c).ownBlock=row/\W.heap[lb]? =some (.cells #[.pointer dp,.int .i64 1,.int .i64 29,.int .i64 bs,.int .i64 1,.slice A s c,.int .i64 bs] 77 (0,0))/\Own Xq 10 49 0 W (.slice A s c) L
 apart:row≠some lb
theorem Xy{w:World}{b:Nat}{a1 a2 a3 a4 a5 a6 a7:Value}{t:TypeId}(h:w.heap[b]? =some (.cells #[a1,a2,a3,a4,a5,a6,a7] t (0,0))):w.cell? ⟨b,2,none⟩=some a3/\w.cell? ⟨b,3,none⟩=some a4/\w.cell? ⟨b,5,none⟩=some a6:=by simp[World.cell?,h]
theorem G4.kp{W W':World}{lb:Nat}{row:Option Nat}{L:List Q9}{bs:Int}{S:Nat->Prop}(h:G4 W lb row L bs)(k:Kp S W W')(h1:¬S lb)(h2:∀q,row=some q->¬S q):G4 W' lb row L bs:=by
 obtain⟨⟨dp,A,s,c,hv,hc,hown⟩,hap⟩:=h
 exact⟨⟨dp,A,s,c,hv,k.at hc h1,hown.kp k (fun q hq=>h2 q (by rw[<-hv];exact hq))⟩,hap⟩
theorem G4.bel{W W':World}{lb:Nat}{row:Option Nat}{L:List Q9}{bs:Int}(h:G4 W lb row L bs)(hb:Below W.heap.size W W'):G4 W' lb row L bs:=h.kp (Kp.Qi hb (fun _=>False)) id (fun _ _=>id)
theorem G4.lt{W:World}{lb:Nat}{row:Option Nat}{L:List Q9}{bs:Int}(h:G4 W lb row L bs):lb<W.heap.size:=by
 obtain⟨⟨_,_,_,_,_,hc,_⟩,_⟩:=h
 exact Q6 hc
theorem G4.Gt{W:World}{lb:Nat}{row:Option Nat}{L:List Q9}{bs:Int}(h:G4 W lb row L bs):∀q,row=some q->q<W.heap.size:=by
 obtain⟨⟨_,_,_,_,hv,_,ho⟩,_⟩:=h
 exact fun q hq=>(ho.lt q (by rw[hv];exact hq)).2
theorem Vl(w:World)(lb:Nat)(row:Option Nat)(L:List Q9)(bs:Int)(h:G4 w lb row L bs)(hlen:L.length<=1000000)(h0:0<=bs)(h1:bs<=1000000):
  Calls Tryz.prog 36 #[.pointer (some ⟨lb,0,none⟩)] w fun e w'=>e=.returned (.int .i64 (bs+L.length))/\Below w.heap.size w w':=by
 obtain⟨⟨dp,A,s,c,hv,hc,hown⟩,hap⟩:=h
 obtain⟨c2,c3,c5⟩:=Xy hc
 have hs:=hown.len
 have HS:Sc ((L.length:Int)=s):=⟨by omega⟩
 have hw:IntKind.i64.wrap (bs+(s:Int))=bs+s:=IntWalk.i64_in _ ⟨by omega,by omega⟩
 clear hv hc hown hap hs
 go_enter Tryz.func36,Tryz.ntmps36
 go_upto_region 1 with fail
 go_quiet (fail)
 go_wp2
 go_ret
 exact⟨by rw[HS.o];rfl,X0 (Below.refl _ _) _⟩
theorem X2u(w:World)(lb:Nat)(row:Option Nat)(L:List Q9)(bs:Int)(h:G4 w lb row L bs)(hlen:L.length<=173)(h0:0<=bs)(h1:bs<=1000000):
  Calls Tryz.prog 74 #[.pointer (some ⟨lb,0,none⟩)] w fun e w'=>e=.returned (.int .i64 (174 - L.length))/\Below w.heap.size w w':=by
 have HL:=Q0 h
 obtain⟨⟨dp,A,s,c,hv,hc,hown⟩,hap⟩:=h
 obtain⟨d2,d3,d5⟩:=Xy hc
 have c2:∀X:Y2 w,X.world.cell? ⟨lb,2,none⟩=some (.int .i64 29):=fun X=>X.cell d2
 have c5:∀X:Y2 w,X.world.cell? ⟨lb,5,none⟩=some (.slice A s c):=fun X=>X.cell d5
 have hs:=hown.len
 have HS:Sc ((L.length:Int)=s):=⟨by omega⟩
 have hs3:s<=173:=by omega
 obtain⟨z,hz⟩:∃z,bs+(L.length:Int)=z:=⟨_,rfl⟩
 have HZ:=Q0 hz
 have hz0:0<=z:=by omega
 have hz1:z<=2000000:=by omega
 have CL:∀X:Y2 w,Calls Tryz.prog 36 #[.pointer (some ⟨lb,0,none⟩)] X.world fun e w'=>e=.returned (.int .i64 z)/\Below X.world.heap.size X.world w':=fun X=>by
  have h:=Vl X.world lb row L bs (HL.o.bel X.below) (by omega) h0 h1
  rw[HZ.o]at h
  exact h
 have hw1:IntKind.i64.wrap (174 - (s:Int))=174 - s:=IntWalk.i64_in _ ⟨by omega,by omega⟩
 have hw2:IntKind.i64.wrap (1073741824 - z)=1073741824 - z:=IntWalk.i64_in _ ⟨by omega,by omega⟩
 clear hv hc hown hap hs d2 d3 d5 hz
 go_enter Tryz.func74,Tryz.ntmps74
 go_wp2_with fail
 refine Xn (by kernel_rfl) (by kernel_rfl) ?_
 repeat (go_big_quiet_step ((go_at_call 36;exact Y2.call _ (CL _))))
 refine wpQuiet_nil ?_
 intro wq hw'
 have HBQ:=Q0 (Y2.Ju hw')
 clear hw'
 go_wp2
 go_ret
 exact⟨by rw[HS.o];rfl,HBQ.o⟩
end
section
structure Yl(B:Nat)(w:World)(fb lb:Nat)(rt rd:Option Nat)(s:An):Prop where
 val:∃vt vd:Value,vt.ownBlock=rt/\vd.ownBlock=rd/\w.heap[fb]? =some (.cells #[.pointer (some ⟨lb,0,none⟩),vt,.int .i64 s.m,vd,.bool s.ins] 117 (0,0))/\Own Qg 4 58 0 w vt s.t/\Own Qj 2 60 0 w vd s.d
 at_:rt≠some fb
 ad:rd≠some fb
 diff:∀q,rt=some q->rd≠some q
 rising:Qd s.t
 Y5v:Qd s.d
 X5n:B<=fb
 Y5k:∀q,rt=some q->B<=q
 Y5j:∀q,rd=some q->B<=q
def Xt(B fb lb:Nat)(rt rd:Option Nat)(s:An)(w w':World):Prop:=
 ∃rt' rd',Yl B w' fb lb rt' rd' s/\Kp (fun q=>q=fb\/some q=rt\/some q=rd) w w'/\(rt'=rt\/∃q,rt'=some q/\w.heap.size<=q)/\(rd'=rd\/∃q,rd'=some q/\w.heap.size<=q)
section
variable{B fb lb:Nat}{w w' w'':World}{rt rd:Option Nat}{s s':An}
theorem Yl.lt(h:Yl B w fb lb rt rd s):fb<w.heap.size:=by obtain⟨⟨_,_,_,_,hc,_⟩,_⟩:=h;exact Q6 hc
theorem Yl.Gt(h:Yl B w fb lb rt rd s):(∀q,rt=some q->q<w.heap.size)/\∀q,rd=some q->q<w.heap.size:=by
 obtain⟨⟨vt,vd,h1,h2,_,h3,h4⟩,_⟩:=h
 exact⟨fun q hq=>(h3.lt q (by rw[h1];exact hq)).2,fun q hq=>(h4.lt q (by rw[h2];exact hq)).2⟩
theorem Yl.bel(h:Yl B w fb lb rt rd s)(hb:Below w.heap.size w w'):Yl B w' fb lb rt rd s:=by
 obtain⟨⟨vt,vd,h1,h2,hc,h3,h4⟩,a,b,c,d,e,f,g,i⟩:=h
 exact⟨⟨vt,vd,h1,h2,up hb hc,h3.below hb,h4.below hb⟩,a,b,c,d,e,f,g,i⟩
theorem Yl.drew(h:Yl B w fb lb rt rd s):Yl B w.drew fb lb rt rd s:=by
 obtain⟨⟨vt,vd,h1,h2,hc,h3,h4⟩,a,b,c,d,e,f,g,i⟩:=h
 exact⟨⟨vt,vd,h1,h2,hc,h3.drew,h4.drew⟩,a,b,c,d,e,f,g,i⟩
theorem Yl.cells(h:Yl B w fb lb rt rd s):w.cell? ⟨fb,0,none⟩=some (.pointer (some ⟨lb,0,none⟩))/\w.cell? ⟨fb,4,none⟩=some (.bool s.ins):=by
 obtain⟨⟨vt,vd,h1,h2,hc,h3,h4⟩,_⟩:=h
 simp[World.cell?,hc]
theorem Yl.Qr(h:Yl B w fb lb rt rd s)(o:Nat):w.frozen? ⟨fb,o,none⟩=false:=by
 obtain⟨⟨vt,vd,h1,h2,hc,h3,h4⟩,_⟩:=h
 exact Q2 hc o
theorem Yl.Y3r(h:Yl B w fb lb rt rd s):∃R,Oa R w fb rt s.t s.m:=by
 obtain⟨⟨vt,vd,h1,h2,hc,h3,h4⟩,a,b,c,d,e,f,g,i⟩:=h
 exact⟨⟨.pointer (some ⟨lb,0,none⟩),vd,s.ins⟩,⟨vt,h1,hc,h3⟩,a,d⟩
theorem Yl.Y8p(h:Yl B w fb lb rt rd s):∃R,X8b R w fb rd s.d:=by
 obtain⟨⟨vt,vd,h1,h2,hc,h3,h4⟩,a,b,c,d,e,f,g,i⟩:=h
 exact⟨⟨.pointer (some ⟨lb,0,none⟩),vt,s.m,s.ins⟩,⟨vd,h2,hc,h4⟩,b,e⟩
theorem Xt.same(h:Yl B w fb lb rt rd s)(hb:Below w.heap.size w w'):Xt B fb lb rt rd s w w':=⟨rt,rd,h.bel hb,Kp.Qi hb _,.inl rfl,.inl rfl⟩
theorem Xt.refl(h:Yl B w fb lb rt rd s):Xt B fb lb rt rd s w w:=Xt.same h (Below.refl _ _)
theorem Xt.trans{rt' rd':Option Nat}(hk:Kp (fun q=>q=fb\/some q=rt\/some q=rd) w w')(ht:rt'=rt\/∃q,rt'=some q/\w.heap.size<=q)(hd:rd'=rd\/∃q,rd'=some q/\w.heap.size<=q)(h:Xt B fb lb rt' rd' s' w' w''):Xt B fb lb rt rd s' w w'':=by
 obtain⟨rt2,rd2,hf,hk2,ht2,hd2⟩:=h
 refine⟨rt2,rd2,hf,hk.trans hk2 (fun q hq=> ?_),?_,?_⟩
 ·rcases hq with hq|hq|hq
  ·exact .inl (.inl hq)
  ·rcases ht with h|⟨p,h,hp⟩
   ·exact .inl (.inr (.inl (by rw[<-h];exact hq)))
   ·rw[h]at hq;injection hq with hq;exact .inr (by omega)
  ·rcases hd with h|⟨p,h,hp⟩
   ·exact .inl (.inr (.inr (by rw[<-h];exact hq)))
   ·rw[h]at hq;injection hq with hq;exact .inr (by omega)
 ·rcases ht2 with h2|⟨q,h2,hq⟩
  ·rcases ht with h|⟨p,h,hp⟩
   ·exact .inl (h2.trans h)
   ·exact .inr ⟨p,h2.trans h,hp⟩
  ·exact .inr ⟨q,h2,Nat.le_trans hk.size hq⟩
 ·rcases hd2 with h2|⟨q,h2,hq⟩
  ·rcases hd with h|⟨p,h,hp⟩
   ·exact .inl (h2.trans h)
   ·exact .inr ⟨p,h2.trans h,hp⟩
  ·exact .inr ⟨q,h2,Nat.le_trans hk.size hq⟩
theorem Xt.bel(h:Xt B fb lb rt rd s w w')(hb:Below w'.heap.size w' w''):Xt B fb lb rt rd s w w'':=by
 obtain⟨rt2,rd2,hf,hk,ht,hd⟩:=h
 exact⟨rt2,rd2,hf.bel hb,hk.trans (Kp.Qi hb (fun _=>False)) (fun _ h=>h.elim),ht,hd⟩
theorem Xt.from_{w0:World}(h:Xt B fb lb rt rd s w w')(hb:Below w0.heap.size w0 w):Xt B fb lb rt rd s w0 w':=by
 obtain⟨rt2,rd2,hf,hk,ht,hd⟩:=h
 refine⟨rt2,rd2,hf,(Kp.Qi hb _).trans hk (fun _ h=> .inl h),?_,?_⟩
 ·rcases ht with h|⟨q,h,hq⟩
  ·exact .inl h
  ·exact .inr ⟨q,h,Nat.le_trans hb.size hq⟩
 ·rcases hd with h|⟨q,h,hq⟩
  ·exact .inl h
  ·exact .inr ⟨q,h,Nat.le_trans hb.size hq⟩
theorem Xt.below(h:Xt B fb lb rt rd s' w w')(hf:Yl B w fb lb rt rd s):Below B w w':=by
 obtain⟨_,_,_,hk,_,_⟩:=h
 refine hk.below (Nat.le_trans hf.X5n (Nat.le_of_lt hf.lt)) (fun q hq=> ?_)
 rcases hq with hq|hq|hq
 ·rw[hq];exact hf.X5n
 ·exact hf.Y5k q hq.symm
 ·exact hf.Y5j q hq.symm
theorem Xt.at_{b:Nat}{o:Obj}(h:Xt B fb lb rt rd s' w w')(hb:w.heap[b]? =some o)(h1:b≠fb)(h2:rt≠some b)(h3:rd≠some b):w'.heap[b]? =some o:=by
 obtain⟨_,_,_,hk,_,_⟩:=h
 exact hk.at hb (fun h=>h.elim h1 (fun h=>h.elim (fun h=>h2 h.symm) (fun h=>h3 h.symm)))
theorem Yl.ofT{t':List TX}{m':Int}{vt vd:Value}(h:Yl B w fb lb rt rd s)(_h1:vt.ownBlock=rt)(h2:vd.ownBlock=rd)(hc:w.heap[fb]? =some (.cells #[.pointer (some ⟨lb,0,none⟩),vt,.int .i64 s.m,vd,.bool s.ins] 117 (0,0)))(h4:Own Qj 2 60 0 w vd s.d)(hl:V0 ⟨.pointer (some ⟨lb,0,none⟩),vd,s.ins⟩ fb rt t' m' w w'):Xt B fb lb rt rd {s with t:=t',m:=m'} w w':=by
 obtain⟨_,a,b,c,d,e,f,g,i⟩:=h
 obtain⟨rt',⟨⟨vt',h1',hc',h3'⟩,a',d'⟩,hk,hat⟩:=hl
 have hdl:∀q,rd=some q->q<w.heap.size:=fun q hq=>(h4.lt q (by rw[h2];exact hq)).2
 refine⟨rt',rd,⟨⟨vt',vd,h1',h2,hc',h3',h4.kp hk (fun q hq he=> ?_)⟩,a',b,fun q hq he=> ?_,d',e,f,fun q hq=> ?_,i⟩,hk.mono (fun q hq=>hq.elim .inl (fun h=> .inr (.inl h))),hat,.inl rfl⟩
 ·rw[h2]at hq
  rcases he with he|he
  ·exact b (by rw[hq,he])
  ·exact c q he.symm hq
 ·rcases hat with h|⟨p,h,hp⟩
  ·exact c q (h.symm.trans hq) he
  ·rw[h]at hq;injection hq with hq;have:=hdl q he;omega
 ·rcases hat with h|⟨p,h,hp⟩
  ·exact g q (h.symm.trans hq)
  ·rw[h]at hq;injection hq with hq;have:=Q6 hc;omega
theorem Yl.ofD{d':List (Int×Int)}{vt vd:Value}(h:Yl B w fb lb rt rd s)(h1:vt.ownBlock=rt)(hc:w.heap[fb]? =some (.cells #[.pointer (some ⟨lb,0,none⟩),vt,.int .i64 s.m,vd,.bool s.ins] 117 (0,0)))(h3:Own Qg 4 58 0 w vt s.t)(hl:Cn ⟨.pointer (some ⟨lb,0,none⟩),vt,s.m,s.ins⟩ fb rd d' w w'):Xt B fb lb rt rd {s with d:=d'} w w':=by
 obtain⟨_,a,b,c,d,e,f,g,i⟩:=h
 obtain⟨rd',⟨⟨vd',h2',hc',h4'⟩,b',e'⟩,hk,hat⟩:=hl
 have htl:∀q,rt=some q->q<w.heap.size:=fun q hq=>(h3.lt q (by rw[h1];exact hq)).2
 refine⟨rt,rd',⟨⟨vt,vd',h1,h2',hc',h3.kp hk (fun q hq he=> ?_),h4'⟩,a,b',fun q hq he=> ?_,d,e',f,g,fun q hq=> ?_⟩,hk.mono (fun q hq=>hq.elim .inl (fun h=> .inr (.inr h))),.inl rfl,hat⟩
 ·rw[h1]at hq
  rcases he with he|he
  ·exact a (by rw[hq,he])
  ·exact c q hq he.symm
 ·rcases hat with h|⟨p,h,hp⟩
  ·exact c q hq (h.symm.trans he)
  ·rw[h]at he;injection he with he;have:=htl q hq;omega
 ·rcases hat with h|⟨p,h,hp⟩
  ·exact i q (h.symm.trans hq)
  ·rw[h]at hq;injection hq with hq;have:=Q6 hc;omega
theorem Yl.X0d(h:Yl B w fb lb rt rd s)(x:Bool):Yl B (w.setCell ⟨fb,4,none⟩ (.bool x)) fb lb rt rd {s with ins:=x}:=by
 obtain⟨⟨vt,vd,h1,h2,hc,h3,h4⟩,a,b,c,d,e,f,g,i⟩:=h
 refine⟨⟨vt,vd,h1,h2,?_,h3.kp (Kp.setCell w _ _) (fun q hq he=>a (by rw[<-h1,hq,he])),h4.kp (Kp.setCell w _ _) (fun q hq he=>b (by rw[<-h2,hq,he]))⟩,a,b,c,d,e,f,g,i⟩
 rw[Qn hc 4 _];rfl
theorem Xt.X0d(h:Xt B fb lb rt rd s w w')(x:Bool):Xt B fb lb rt rd {s with ins:=x} w (w'.setCell ⟨fb,4,none⟩ (.bool x)):=by
 obtain⟨rt2,rd2,hf,hk,ht,hd⟩:=h
 exact⟨rt2,rd2,hf.X0d x,hk.trans (Kp.setCell w' ⟨fb,4,none⟩ _) (fun q hq=> .inl (.inl hq)),ht,hd⟩
end
variable{B fb lb:Nat}{rt rd:Option Nat}{s:An}
theorem Q9k(w:World)(x:TX)(h:Yl B w fb lb rt rd s)(hlen:s.t.length<=1000000):
  Calls Tryz.prog 121 #[.pointer (some ⟨fb,1,none⟩),Gn x] w fun e w'=>e=.returned (.tuple #[])/\Xt B fb lb rt rd {s with t:=Qt s.t x,m:=max s.m x.1} w w':=by
 obtain⟨⟨vt,vd,h1,h2,hc,h3,h4⟩,a,b,c,d,e,f,g,i⟩:=id h
 exact(X6x (R:=⟨.pointer (some ⟨lb,0,none⟩),vd,s.ins⟩) w fb rt s.t s.m x ⟨⟨vt,h1,hc,h3⟩,a,d⟩ hlen).mono fun e w' ⟨he,hl⟩=>⟨he,h.ofT h1 h2 hc h4 hl⟩
theorem Y4q(w:World)(p:Int)(h:Yl B w fb lb rt rd s):
  Calls Tryz.prog 123 #[.pointer (some ⟨fb,1,none⟩),.int .i64 p] w fun e w'=>e=.returned (.tuple #[])/\Xt B fb lb rt rd {s with m:=max s.m p} w w':=by
 obtain⟨⟨vt,vd,h1,h2,hc,h3,h4⟩,a,b,c,d,e,f,g,i⟩:=id h
 exact(D3 (R:=⟨.pointer (some ⟨lb,0,none⟩),vd,s.ins⟩) w fb rt s.t s.m p ⟨⟨vt,h1,hc,h3⟩,a,d⟩).mono fun e w' ⟨he,hl⟩=>⟨he,h.ofT h1 h2 hc h4 hl⟩
theorem Y4n(w:World)(p:Int)(h:Yl B w fb lb rt rd s)(hlen:s.t.length<=1000000):
  Calls Tryz.prog 125 #[.pointer (some ⟨fb,1,none⟩),.int .i64 p] w fun e w'=>e=.returned (.bool (has s.t p))/\Xt B fb lb rt rd {s with t:=X4 s.t p} w w':=by
 obtain⟨⟨vt,vd,h1,h2,hc,h3,h4⟩,a,b,c,d,e,f,g,i⟩:=id h
 exact(X3s (R:=⟨.pointer (some ⟨lb,0,none⟩),vd,s.ins⟩) w fb rt s.t s.m p ⟨⟨vt,h1,hc,h3⟩,a,d⟩ hlen).mono fun e w' ⟨he,hl⟩=>⟨he,h.ofT h1 h2 hc h4 hl⟩
theorem Y7d(w:World)(p:Int)(h:Yl B w fb lb rt rd s)(hlen:s.t.length<=1000000):
  Calls Tryz.prog 124 #[.pointer (some ⟨fb,1,none⟩),.int .i64 p] w fun e w'=>e=.returned (.tuple #[Gn (got s.t p),.bool (has s.t p)])/\Below w.heap.size w w':=by
 obtain⟨R,hR⟩:=h.Y3r
 exact X6z (R:=R) w fb rt s.t s.m p hR hlen
theorem X7l(w:World)(p q:Int)(h:Yl B w fb lb rt rd s)(hlen:s.d.length<=1000000):
  Calls Tryz.prog 122 #[.pointer (some ⟨fb,3,none⟩),.int .i64 p,.int .i64 q] w fun e w'=>e=.returned (.tuple #[])/\Xt B fb lb rt rd {s with d:=add s.d (p,q)} w w':=by
 obtain⟨⟨vt,vd,h1,h2,hc,h3,h4⟩,a,b,c,d,e,f,g,i⟩:=id h
 exact(Q9b (Rd:=⟨.pointer (some ⟨lb,0,none⟩),vt,s.m,s.ins⟩) w fb rd s.d p q ⟨⟨vd,h2,hc,h4⟩,b,e⟩ hlen).mono fun e w' ⟨he,hl⟩=>⟨he,h.ofD h1 hc h3 hl⟩
theorem Y4m(w:World)(h:Yl B w fb lb rt rd s)(hlen:s.t.length<=1000000):Calls Tryz.prog 33 #[.pointer (some ⟨fb,1,none⟩)] w (Q8u s.t w):=by
 obtain⟨R,hR⟩:=h.Y3r
 exact X6y (R:=R) w fb rt s.t s.m hR hlen
theorem Y4l(w:World)(h:Yl B w fb lb rt rd s)(hlen:s.d.length<=1000000):Calls Tryz.prog 34 #[.pointer (some ⟨fb,3,none⟩)] w (Q8s s.d w):=by
 obtain⟨R,hR⟩:=h.Y8p
 exact Q9c (Rd:=R) w fb rd s.d hR hlen
theorem Y4p(w:World)(h:Yl B w fb lb rt rd s):Calls Tryz.prog 35 #[.pointer (some ⟨fb,1,none⟩)] w fun e w'=>e=.returned (.int .i64 s.m)/\w=w':=by
 obtain⟨R,hR⟩:=h.Y3r
 exact X3t (R:=R) w fb rt s.t s.m hR
end
end Go.Proofs.YtoapihepdallbaaGreatDoor
