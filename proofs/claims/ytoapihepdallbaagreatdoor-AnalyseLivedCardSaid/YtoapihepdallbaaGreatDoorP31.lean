import Derived.Test.YtoapihepdallbaaGreatDoorP30
namespace Go.Proofs.YtoapihepdallbaaGreatDoor
open Go.RowKit
theorem Cnt.Y1{S:WG}{k v:Nat}(h:Cnt S k v)(n:Int)(wr':Option Nat):Cnt (S.Y1 n wr') k v:=
 ⟨h.Qu,h.lk,Nat.le_trans (Zo n S.T.wt) h.wt,h.tx,h.most,h.vm,h.sp,h.small,h.sav,h.md⟩
theorem Cnt.wt2{S:WG}{k v:Nat}(h:Cnt S k v):S.T.wt.length<=100000:=by
 have h1:=h.wt
 have h2:=h.small
 have:k*k<=200*200:=Nat.mul_le_mul h2 h2
 omega
theorem Cnt.up{S:WG}{k v k' v':Nat}(h:Cnt S k v)(hk:k<=k')(h2:k'<=200)(hv:v<=v'):Cnt S k' v':=
 ⟨h.Qu,Nat.le_trans h.lk hk,Nat.le_trans h.wt (Nat.mul_le_mul hk hk),Nat.le_trans h.tx hk,by have:=h.most;omega,Nat.le_trans h.vm hv,h.sp,h2,h.sav,h.md⟩
theorem Q1o{t:List TX}{x:TX}{k:Nat}(h:t.length<=k):(Qt t x).length<=k+1:=Nat.le_trans (G0 t x) (by omega)
set_option maxRecDepth 4000 in
set_option maxHeartbeats 8000000 in
theorem Q5p(w:World)(S:WG)(n k v:Nat)(h:Qh S w)(hn:n<S.T.Qu)(hc:Cnt S k v)(hk:k<200)(hok:Ok S.P.pages (6*S.P.bl) S.abs):
  Calls Tryz.prog 56 #[.pointer (some ⟨S.T.sb,0,none⟩),.int .i64 n] w fun e w'=>(∃c,e=.returned (.int .i64 c))/\∃S',Yn S S' (k+1) v w w':=by
 have HZ0:=Q0 h
 have HC:=Q0 hc
 have HOK:=Q0 hok
 have hn8:n<8:=by have:=hc.Qu;omega
 have hn8':(n:Int)<8:=by omega
 have CM:=Oh w S n h hn hc.Qu hc.wt2 (by have:=hc.tx;have:=hc.small;omega)
 obtain⟨sb,hsb⟩:∃sb,S.T.sb=sb:=⟨_,rfl⟩
 have HSB:=Q0 hsb
 rw[hsb]at CM ⊢
 have CM:=Q0 CM
 clear h hn hc hok hsb
 go_enter Tryz.func56,Tryz.ntmps56
 go_wp2_with fail
 refine CM.o.mono ?_
 rintro e w1 ⟨hm,wr1,hl1⟩
 have HL1:=Q0 hl1
 have HC1:=Q0 (HC.o.Y1 n wr1)
 obtain⟨S1,hS1⟩:∃S1,S.Y1 n wr1=S1:=⟨_,rfl⟩
 have HS1:=Q0 hS1
 rw[hS1]at HL1 HC1
 have HSB1:Sc (S1.T.sb=sb/\S1.abs=S.abs/\S1.P=S.P/\Kept S.T S1.T/\S1.T.X1=S.T.X1):=⟨by rw[<-hS1];exact⟨HSB.o,rfl,rfl,Ys S.T,rfl⟩⟩
 clear hl1 hS1
 rcases hm with ⟨hm0,rfl⟩|⟨id,hid0,_,rfl⟩
 ·have HM0:=Q0 hm0
  clear hm0
  go_upto_region 6 with fail
  obtain⟨w2,hw2⟩:∃w2,w1.alloc (.cells #[.int .i64 0,.int .i64 0,.int .i64 0,.int .i64 0] 58)=w2:=⟨_,rfl⟩
  have HL2:Sc (Q8 (Q1 S) (Q1 S1) w w2):=⟨by rw[<-hw2];exact Part.Qs HL1.o (Q3 (Below.refl _ _) _)⟩
  rw[hw2]
  clear hw2
  obtain⟨_,_,_,_,_,_,c11,lt⟩:=HL2.o.1.sto.cells
  rw[HSB1.o.1]at c11 lt
  have CA:=Q0 (X3w w2 S1 1 2 HL2.o.1 (by omega) (by omega) (by omega) (by omega) (by have:=HL2.o.1.spa.k1;have:=HC1.o.sp;have:=HL2.o.1.spa.f0;omega))
  go_wp2_with fail
  refine CA.o.mono ?_
  rintro e w3 (⟨rfl,hl3⟩|⟨hf3,rfl,hl3⟩)
  ·have HL3:=Q0 hl3
   clear hl3 c11 lt
   go_wp2
   go_ret
   exact⟨⟨109,rfl⟩,S1,Part.trans HL2.o HL3.o,HSB1.o.2.2.2.1,HC1.o.up (Nat.le_succ k) (by omega) (Nat.le_refl _),by rw[HSB1.o.2.1,HSB1.o.2.2.1];exact HOK.o⟩
  ·have HF3:=Q0 hf3
   obtain⟨S2,hS2⟩:∃S2,S1.space (S1.f - 1 - 2) (S1.k+2)=S2:=⟨_,rfl⟩
   have HS2:=Q0 hS2
   rw[hS2]at hl3
   have HL3:=Q0 (Part.trans HL2.o hl3)
   have HM0':Sc (0<=S.T.most/\S.T.most<60000/\S2.T.most=S.T.most/\S2.T.sb=sb/\S2.T.tx=S.T.tx):=⟨by have h1:=HOK.o.Yc.most.1;have h2:=HC.o.most;have h3:=HC.o.small;exact⟨h1,by show S.T.most<60000;omega,by rw[<-hS2,<-HS1.o];rfl,by rw[<-hS2];exact HSB1.o.1,by rw[<-hS2,<-HS1.o];rfl⟩⟩
   have CB:Sc (Calls Tryz.prog 96 #[.pointer (some ⟨sb,9,none⟩)] w3 fun e w'=>e=.returned (.tuple #[.int .i64 (S.T.most+1),.bool true])/\∃tr',Q8 (Q1 S2) (Q1 (S2.trans tr' (Qt S.T.tx (S.T.most+1,0,0,0)) (S.T.most+1))) w3 w'):=⟨by
    have:=X0h w3 S2 HL3.o.1 (by rw[HM0'.o.2.2.2.2];have:=HC.o.tx;have:=HC.o.small;omega) (by rw[HM0'.o.2.2.1];exact HM0'.o.1) (by rw[HM0'.o.2.2.1];exact HM0'.o.2.1)
    rw[HM0'.o.2.2.1,HM0'.o.2.2.2.1,HM0'.o.2.2.2.2]at this
    exact this⟩
   obtain⟨m1,hm1⟩:∃m1,S.T.most+1=m1:=⟨_,rfl⟩
   rw[hm1]at CB
   have HM1:=Q0 hm1
   clear hf3 hS2 hl3 c11 lt hm1
   go_wp2_with fail
   refine CB.o.mono ?_
   rintro e w4 ⟨rfl,tr4,hl4⟩
   obtain⟨S3,hS3⟩:∃S3,S2.trans tr4 (Qt S.T.tx (m1,0,0,0)) m1=S3:=⟨_,rfl⟩
   have HS3:=Q0 hS3
   rw[hS3]at hl4
   have HL4:=Q0 (Part.trans HL3.o hl4)
   have HSB3:Sc (S3.T.sb=sb/\S3.P=S.P/\Kept S.T S3.T):=⟨by rw[<-hS3,<-HS2.o,<-HS1.o];exact⟨HSB.o,rfl,Ys S.T⟩⟩
   obtain⟨_,_,_,c5,_,_,_,lt⟩:=HL4.o.1.sto.cells
   rw[HSB3.o.1]at c5 lt
   have CP:Sc (Calls Tryz.prog 26 #[.pointer (some ⟨S3.T.lb,0,none⟩),.agg #[.int .i64 1,.int .i64 m1,.int .i64 0,.int .i64 0,.int .i64 0,.int .i64 0,.bool false,.bool false,.int .i64 0,.int .i64 0]] w4 (Y7v S3 (Q9y m1) w4)):=⟨Q2n w4 S3 (Q9y m1) HL4.o.1⟩
   clear hl4 hS3
   go_wp2_with fail
   refine CP.o.mono ?_
   rintro e w5 (⟨hgl,rfl,row5,hl5⟩|⟨hgl,c,hc0,rfl,row5,hl5⟩)
   ·have HFIT:Sc (S.P.L.length<6*S.P.bl):=⟨by have:=hgl.2;rw[HSB3.o.2.1]at this;exact this⟩
    obtain⟨l5,hl5e⟩:∃l5:Int,(S3.P.L.length:Int)+1=l5:=⟨_,rfl⟩
    have HL5E:Sc (l5=(S.P.L.length:Int)+1):=⟨by rw[<-hl5e,HSB3.o.2.1]⟩
    rw[hl5e]
    obtain⟨S4,hS4⟩:∃S4,S3.Xg row5 (S3.P.L++[Q9y m1])=S4:=⟨_,rfl⟩
    have HS4:=Q0 hS4
    rw[hS4]at hl5
    have HL5:=Q0 (Part.trans HL4.o hl5)
    have HSB4:Sc (S4.T.sb=sb/\S4.T.tx=Qt S.T.tx (m1,0,0,0)):=⟨by rw[<-hS4,<-HS3.o];exact⟨by show S2.T.sb=sb;exact HM0'.o.2.2.2.1,rfl⟩⟩
    have CNT:Sc (Calls Tryz.prog 85 #[.pointer (some ⟨sb,9,none⟩),.int .i64 m1,.int .i64 l5,.int .i64 0] w5 fun e w'=>e=.returned (.bool (has (Qt S.T.tx (m1,0,0,0)) m1))/\∃tr',Q8 (Q1 S4) (Q1 (S4.trans tr' (upd (Qt S.T.tx (m1,0,0,0)) m1 (fun y=>(y.1,l5,0))) S4.T.most)) w5 w'):=⟨by
     have:=D0 w5 S4 m1 l5 0 HL5.o.1 (by rw[HSB4.o.2];have:=Q1o (x:=((m1,0,0,0):TX)) HC.o.tx;have:=HC.o.small;omega)
     rw[HSB4.o.1,HSB4.o.2]at this
     exact this⟩
    clear hl5 hS4 hgl hl5e c5 lt
    go_wp2_with fail
    refine CNT.o.mono ?_
    rintro e w6 ⟨rfl,tr6,hl6⟩
    obtain⟨S5,hS5⟩:∃S5,S4.trans tr6 (upd (Qt S.T.tx (m1,0,0,0)) m1 (fun y=>(y.1,l5,0))) S4.T.most=S5:=⟨_,rfl⟩
    have HS5:=Q0 hS5
    rw[hS5]at hl6
    have HL6:=Q0 (Part.trans HL5.o hl6)
    have HSB5:Sc (S5.T.sb=sb):=⟨by rw[<-hS5];exact HSB4.o.1⟩
    have HM5:Sc (S5.T.X1[n]? =some 0):=⟨by rw[<-hS5,<-HS4.o,<-HS3.o,<-HS2.o,<-HS1.o];exact HM0.o⟩
    have c12:=HL6.o.1.sto.Q9o HM5.o
    have f12:=HL6.o.1.sto.frozen (12+n)
    have f20:=HL6.o.1.sto.frozen (20+n)
    obtain⟨y,hy⟩:∃y,S5.T.sav[n]? =some y:=⟨_,List.getElem?_eq_getElem (by rw[HL6.o.1.sto.ns];exact hn8)⟩
    have c20:=HL6.o.1.sto.Q5m hy
    rw[HSB5.o]at c12 f12 f20 c20
    have l12:=World.block_lt_of_cell? _ _ c12
    have hne:¬(12+n=20+n):=by omega
    have hne2:¬(20+n=12+n):=by omega
    have HL7:=Q0 (Part.trans HL6.o (HL6.o.1.X7q hn8 m1))
    have HL8:=Q0 (Part.trans HL7.o (HL7.o.1.Y3g hn8))
    have HW8:Sc (((w6.setCell ⟨sb,12+n,none⟩ (.int .i64 m1)).setCell ⟨sb,20+n,none⟩ (.slice none 0 0))=((w6.setCell ⟨S5.T.sb,12+n,none⟩ (.int .i64 m1)).setCell ⟨(S5.minus n m1).T.sb,20+n,none⟩ (.slice none 0 0))):=⟨by rw[show(S5.minus n m1).T.sb=S5.T.sb from rfl,HSB5.o]⟩
    clear hl6 hS5 hy
    go_wp2
    go_ret
    rw[HW8.o]
    have hE:(((S5.minus n m1).saved n ⟨none,0,0,[]⟩)).abs=S.abs.begun n:=by
     rw[<-HS5.o,<-HS4.o,<-HS3.o,<-HS2.o,<-HS1.o,HL5E.o,<-HM1.o]
     rfl
    refine⟨⟨0,rfl⟩,_,HL8.o,?_,?_,?_⟩
    ·rw[<-HS5.o,<-HS4.o,<-HS3.o,<-HS2.o,<-HS1.o];exact Ys S.T
    ·refine⟨?_,?_,?_,?_,?_,?_,?_,by omega,?_,?_⟩
     all_goals rw[<-HS5.o,<-HS4.o,<-HS3.o,<-HS2.o,<-HS1.o]
     ·exact HC.o.Qu
     ·exact Nat.le_succ_of_le HC.o.lk
     ·exact Nat.le_trans (Nat.le_trans (Zo n S.T.wt) HC.o.wt) (Nat.mul_le_mul (Nat.le_succ k) (Nat.le_succ k))
     ·show(upd (Qt S.T.tx (m1,0,0,0)) m1 (fun y=>(y.1,l5,0))).length<=k+1
      rw[Jv]
      exact Q1o HC.o.tx
     ·show m1<=((k+1:Nat):Int)
      have:=HC.o.most
      have:=HM1.o
      omega
     ·exact HC.o.vm
     ·show S.f - 1 - 2+(S.k+2)<=400
      have:=HC.o.sp
      omega
     ·intro x hx
      rcases List.mem_or_eq_of_mem_set (show x∈S.T.sav.set n ⟨none,0,0,[]⟩ from hx) with hx|rfl
      ·exact HC.o.sav x hx
      ·exact Nat.zero_le _
     ·exact HC.o.md
    ·rw[hE]
     have hp:(((S5.minus n m1).saved n ⟨none,0,0,[]⟩)).P.pages=S.P.pages/\(((S5.minus n m1).saved n ⟨none,0,0,[]⟩)).P.bl=S.P.bl:=by
      rw[<-HS5.o,<-HS4.o,<-HS3.o,<-HS2.o,<-HS1.o];exact⟨rfl,rfl⟩
     rw[hp.1,hp.2]
     exact HOK.o.begun HFIT.o HM0'.o.2.1 HM0.o
   ·have e0:(c !=0)=true:=by simp[hc0]
    have e1:(c==0)=false:=by simp[hc0]
    have HG:=Q0 hgl
    obtain⟨S4,hS4⟩:∃S4,S3.Xg row5 S3.P.L=S4:=⟨_,rfl⟩
    have HS4:=Q0 hS4
    rw[hS4]at hl5
    have HL5:=Q0 (Part.trans HL4.o hl5)
    clear hl5 hS4 hgl hc0 c5 lt
    go_wp2
    go_ret
    have hE:S4.abs={S.abs with tx:=Qt S.abs.tx (S.abs.most+1,0,0,0),most:=S.abs.most+1}/\S4.P.pages=S.P.pages/\S4.P.bl=S.P.bl:=by
     rw[<-HS4.o,<-HS3.o,<-HS2.o,<-HS1.o,<-HM1.o]
     exact⟨rfl,rfl,rfl⟩
    refine⟨⟨c,rfl⟩,S4,HL5.o,?_,?_,?_⟩
    ·rw[<-HS4.o,<-HS3.o,<-HS2.o,<-HS1.o];exact Ys S.T
    ·refine⟨?_,?_,?_,?_,?_,?_,?_,by omega,?_,?_⟩
     all_goals rw[<-HS4.o,<-HS3.o,<-HS2.o,<-HS1.o]
     ·exact HC.o.Qu
     ·exact Nat.le_succ_of_le HC.o.lk
     ·exact Nat.le_trans (Nat.le_trans (Zo n S.T.wt) HC.o.wt) (Nat.mul_le_mul (Nat.le_succ k) (Nat.le_succ k))
     ·exact Q1o HC.o.tx
     ·show m1<=((k+1:Nat):Int)
      have:=HC.o.most
      have:=HM1.o
      omega
     ·exact HC.o.vm
     ·show S.f - 1 - 2+(S.k+2)<=400
      have:=HC.o.sp
      omega
     ·exact HC.o.sav
     ·exact HC.o.md
    ·rw[hE.1,hE.2.1,hE.2.2]
     refine⟨HOK.o.Yc.Y6y HM0'.o.2.1,.inl ?_⟩
     rcases HG.o with h1|h1
     ·have:=Q4j (id:=m1) (by have:=HM1.o;have:=HM0'.o.1;omega) (by have:=HM1.o;have:=HM0'.o.2.1;omega)
      rw[h1]at this
      cases this
     ·rw[HSB3.o.2.1]at h1
      exact h1
 ·clear hid0
  go_wp2
  go_ret
  exact⟨⟨114,rfl⟩,S1,Part.Qs HL1.o (Q3 (Below.refl _ _) _),HSB1.o.2.2.2.1,HC1.o.up (Nat.le_succ k) (by omega) (Nat.le_refl _),by rw[HSB1.o.2.1,HSB1.o.2.2.1];exact HOK.o⟩
set_option maxHeartbeats 1000000 in
theorem Dg(w:World)(key pages:Int)(h1:1<=pages)(h2:pages<=1000):
  Calls Tryz.prog 101 #[.int .i64 key,.int .i64 pages] w fun e w'=>e=.returned (.int .i64 (Zr key pages))/\w=w':=by
 have hmx:max pages 1=pages:=by omega
 have hd:decide (pages<1)=false:=decide_eq_false (by omega)
 go_enter Tryz.func101,Tryz.ntmps101
 go_wp2
 go_ret
 refine⟨?_,rfl⟩
 unfold Zr
 rw[hmx]
 have g1:=Int.emod_nonneg (key % 4294967296*2654435761 % 4294967296 / 65536) (by omega:pages≠0)
 have g2:=Int.emod_lt_of_pos (key % 4294967296*2654435761 % 4294967296 / 65536) (by omega:0<pages)
 have hw:wrap64 (1+key % 4294967296*2654435761 % 4294967296 / 65536 % pages)=1+key % 4294967296*2654435761 % 4294967296 / 65536 % pages:=IntWalk.wrap64_in _ ⟨by omega,by omega⟩
 show Ending.returned (.int .i64 (wrap64 (1+key % 4294967296*2654435761 % 4294967296 / 65536 % pages)))=_
 rw[hw]
theorem Own.type{α:Type}{enc:α->List Value}{sz:Nat}{e t:TypeId}{base:Nat}{w:World}{v:Value}{l:List α}(h:Own enc sz e base w v l){q:Nat}(hq:v.ownBlock=some q){cs:Array Value}{fr:Nat×Nat}(hc:w.heap[q]? =some (.cells cs t fr)):t=e:=by
 obtain⟨_,hc2⟩:=h
 rcases hc2 with ⟨rfl,_⟩|⟨g,cap,cur,rfl,_,hg,_⟩
 ·cases hq
 ·injection hq with hq
  subst hq
  have hg':w.heap[g]? =some (.cells cur e (0,0)):=hg
  rw[hc]at hg'
  injection hg' with hg'
  injection hg' with _ h2 _
theorem Vr.Y6i{T:Xm}{w:World}(h:Vr T w){v:Value}{l:List Int}(ho:Own X6 1 3 0 w v l):∀q,v.ownBlock=some q->¬(q=T.sb\/some q=T.wr):=fun q hq he=>by
 obtain⟨vk,vw,vt,_,e2,_,hc,_,o2,_⟩:=h.val
 rcases he with rfl|he
 ·have:=ho.type hq hc
  exact absurd this (by decide)
 ·obtain⟨_,hc2⟩:=o2
  rcases hc2 with ⟨rfl,_⟩|⟨g,cap,cur,rfl,_,hg,_⟩
  ·rw[<-e2]at he;cases he
  ·rw[<-e2]at he
   injection he with he
   have he':q=g:=he
   subst he'
   have:=ho.type hq hg
   exact absurd this (by decide)
theorem X3q{s key mode s' k:Int}{l:List (Int×Int×Int)}(hm:mode<=2)(h:(s',k,(2:Int))∈l):(s',k,(2:Int))∈Zu s key mode l:=by
 induction l with
 |nil=>cases h
 |cons x r ih=>
  unfold Zu
  split
  ·rename_i hx
   rcases List.mem_cons.1 h with rfl|h
   ·exact List.mem_cons.2 (.inl (by show(s',k,(2:Int))=(s',k,max 2 mode);rw[Int.max_eq_left hm]))
   ·exact List.mem_cons_of_mem _ h
  ·rcases List.mem_cons.1 h with rfl|h
   ·exact List.mem_cons_self
   ·exact List.mem_cons_of_mem _ (ih h)
theorem Y0s{s key:Int}{l:List (Int×Int×Int)}(hl:∀h∈l,h.2.2<=2):(s,key,(2:Int))∈Zu s key 2 l:=by
 induction l with
 |nil=>exact List.mem_singleton.2 rfl
 |cons x r ih=>
  unfold Zu
  split
  ·rename_i hx
   have:=hl x List.mem_cons_self
   refine List.mem_cons.2 (.inl ?_)
   rw[Int.max_eq_right this,hx.1,hx.2]
  ·exact List.mem_cons_of_mem _ (ih (fun h hh=>hl h (List.mem_cons_of_mem _ hh)))
theorem Y0t(s key mode:Int)(l:List (Int×Int×Int)):(Zu s key mode l).length<=l.length+1:=by
 induction l with
 |nil=>exact Nat.le_refl _
 |cons x r ih=>
  unfold Zu
  split
  ·simp
  ·simp only[List.length_cons];omega
theorem Y3s{s key mode:Int}{l:List (Int×Int×Int)}(hm:mode<=2)(hl:∀h∈l,h.2.2<=2):∀h∈Zu s key mode l,h.2.2<=2:=by
 induction l with
 |nil=>intro h hh;rw[List.mem_singleton.1 hh];exact hm
 |cons x r ih=>
  intro h hh
  unfold Zu at hh
  split at hh
  ·rcases List.mem_cons.1 hh with rfl|hh
   ·have:=hl x List.mem_cons_self
    show max x.2.2 mode<=2
    omega
   ·exact hl h (List.mem_cons_of_mem _ hh)
  ·rcases List.mem_cons.1 hh with rfl|hh
   ·exact hl _ List.mem_cons_self
   ·exact ih (fun h hh=>hl h (List.mem_cons_of_mem _ hh)) h hh
theorem Y5u(l:List Int)(n:Int):(rin l n).length<=l.length+1:=by
 unfold rin
 split
 ·omega
 ·simp only[List.length_append,List.length_take,List.length_cons,List.length_drop]
  have:=Q0d l n
  omega
theorem Y1n{α:Type}(p:α->Bool)(f:α->Int)(l:List α):(Cu p f l).length<=l.length:=by
 unfold Cu
 have h:∀(m:List α) (o:List Int),(m.foldl (fun o x=>rin o (f x)) o).length<=o.length+m.length:=by
  intro m
  induction m with
  |nil=>intro o;simp
  |cons x m ih=>
   intro o
   have h1:=ih (rin o (f x))
   have h2:=Y5u o (f x)
   rw[List.foldl_cons,List.length_cons]
   omega
 have h1:=h (l.filter p) []
 have h2:=List.length_filter_le p l
 simp at h1
 omega
structure Y6w(S S':WG)(w w':World):Prop where
 leaves:Q8 (Q1 S) (Q1 S') w w'
 kept:Kept S.T S'.T
 same:G5 S.P S'.P
 tx:S'.T.tx=S.T.tx
 most:S'.T.most=S.T.most
 X1:S'.T.X1=S.T.X1
 ck:S'.T.ck=S.T.ck
 tab:∀y∈S'.P.O.tab,y∈S.P.O.tab
 lk:∀s k,(s,k,(2:Int))∈S.T.lk->(s,k,(2:Int))∈S'.T.lk
theorem Y6w.ok{S S':WG}{w w':World}(h:Y6w S S' w w')(ho:Ok S.P.pages (6*S.P.bl) S.abs):Ok S'.P.pages (6*S'.P.bl) S'.abs:=by
 have he:S'.abs={S.abs with lk:=S'.T.lk,tab:=S'.P.O.tab}:=by
  unfold WG.abs
  rw[h.same.L,h.tx,h.most,h.X1,h.same.pv,h.ck]
 rw[he,h.same.pages,h.same.bl]
 exact ho.idle h.lk h.tab
set_option maxRecDepth 4000 in
set_option maxHeartbeats 8000000 in
theorem Q5r(w:World)(S:WG)(n hint k v:Nat)(key mode:Int)(h:Qh S w)(hn:n<S.T.Qu)(hc:Cnt S k v)(hk:k<200)(hv:v<=700000)(hm:mode=1\/mode=2)(hk0:0<=key)(hkey:key<1048576)(hh:hint<=1000000):
  Calls Tryz.prog 98 #[.pointer (some ⟨S.T.sb,0,none⟩),.int .i64 n,.int .i64 key,.int .i64 mode,.int .i64 hint] w fun e w'=>∃S',Y6w S S' w w'/\Cnt S' (k+1) (v+1)/\
   ((∃c:Int,c≠0/\e=.returned (.tuple #[Zn 0 (.slice none 0 0),X5 c]))\/(∃g id,e=.returned (.tuple #[Zn g.lsn g.v,X5 0])/\g∈S'.P.O.fr/\g.n=Zr key S.P.pages/\id≠0/\S.T.X1[n]? =some id/\(mode=2->((n:Int),key,(2:Int))∈S'.T.lk))):=by
 have HZ0:=Q0 h
 have HC:=Q0 hc
 have HM:=Q0 hm
 have HHINT:=Q0 hh
 obtain⟨w1,hw1⟩:∃w1,(w.alloc (.cells #[.int .i64 0,.slice none 0 0] 197)).alloc (.cells fz 41)=w1:=⟨_,rfl⟩
 have HB1:Sc (Below w.heap.size w w1):=⟨hw1▸Q3 (Q3 (Below.refl _ _) _) _⟩
 have HP1:Sc (w1.heap[w.heap.size]? =some (.cells #[.int .i64 0,.slice none 0 0] 197 (0,0))/\w1.heap[w.heap.size+1]? =some (.cells fz 41 (0,0))):=⟨hw1▸Ym w _ _⟩
 have HZ:Sc (Qh S w1):=⟨(Q1 S).bel h HB1.o⟩
 have HBS:Sc (w1.heap.size=w.heap.size+2):=⟨by rw[<-hw1];simp⟩
 obtain⟨b6,hb6⟩:∃b,w.heap.size=b:=⟨_,rfl⟩
 have HB6:=Q0 hb6
 have HRES:Sc (∀W,Kp (Q1 S).U w1 W->(W.heap[b6]? =some (.cells #[.int .i64 0,.slice none 0 0] 197 (0,0))/\W.heap[b6+1]? =some (.cells fz 41 (0,0)))):=⟨fun W hk=>Q8h (by rw[<-HB6.o];exact HP1.o) hk (fun hu=>by have:=(Q1 S).lt HZ0.o _ hu;have:=HB6.o;omega) (fun hu=>by have:=(Q1 S).lt HZ0.o _ hu;have:=HB6.o;omega)⟩
 have CM:=Oh w1 S n HZ.o hn hc.Qu hc.wt2 (by have:=hc.tx;have:=hc.small;omega)
 obtain⟨sb,hsb⟩:∃sb,S.T.sb=sb:=⟨_,rfl⟩
 have HSB:=Q0 hsb
 rw[hsb]at CM ⊢
 have CM:=Q0 CM
 have HV:=Q0 hv
 have HLK:Sc (S.T.lk.length<=100000):=⟨by have:=hc.lk;have:=hc.small;omega⟩
 have d1:decide (key<0)=false:=decide_eq_false (by omega)
 have d2:decide ((1048576:Int)<=key)=false:=decide_eq_false (by omega)
 have HKEY:Sc (0<=key/\key<1048576):=⟨hk0,hkey⟩
 clear h hn hc hm hsb hv hh hk0 hkey
 go_enter Tryz.func98,Tryz.ntmps98
 go_wp2_with fail
 try rw[hw1]
 try rw[hb6]
 clear hw1 hb6
 refine CM.o.mono ?_
 rintro e w2 ⟨hm,wr1,hl1⟩
 have HL1:=Q0 hl1
 have HC1:=Q0 ((HC.o.Y1 n wr1).up (Nat.le_succ k) (by omega) (Nat.le_succ v))
 clear hl1
 rcases hm with ⟨hm0,rfl⟩|⟨id,hid0,hid,rfl⟩
 ·clear hm0
  go_upto_region 5 with fail
  have HL3:Sc (Q8 (Q1 S) (Q1 (S.Y1 n wr1)) w1 (w2.alloc (.cells #[.int .i64 0,.int .i64 0,.int .i64 0,.int .i64 0] 58))):=⟨Part.Qs HL1.o (Q3 (Below.refl _ _) _)⟩
  obtain⟨w3,hw3⟩:∃w3,w2.alloc (.cells #[.int .i64 0,.int .i64 0,.int .i64 0,.int .i64 0] 58)=w3:=⟨_,rfl⟩
  rw[hw3]at HL3 ⊢
  clear hw3
  go_wp2_with fail
  refine(Yb _ 113).mono ?_
  rintro e w9 ⟨rfl,hb9⟩
  have HL9:=Q0 (Part.Qs HL3.o hb9)
  obtain⟨p0,p1,z0,z1,z2,x0,x1,y0,y1,y2,l6,l7⟩:=Ud (HRES.o w9 HL9.o.2.1)
  clear hb9
  go_wp2
  refine bodyPost_ret (v:=.tuple #[Zn 0 (.slice none 0 0),X5 113]) (by simp[results,Tryz.results98,go_sem,p0,p1,z0,z1,z2]) rfl ⟨S.Y1 n wr1,⟨?_,Ys S.T,G5.refl S.P,rfl,rfl,rfl,rfl,fun _ h=>h,fun _ _ h=>h⟩,HC1.o,.inl ⟨113,by decide,rfl⟩⟩
  refine Part.boxed (A:=Q1 S) HZ0.o HB1.o HL9.o ?_
  have e1:=HBS.o
  have e2:=HB6.o
  repeat (first|with_reducible exact Kp.Vd|with_reducible refine Kp.drew ?_|with_reducible refine Kp.put ?_ ⟨by omega,by omega⟩ _)
 ·have HID:=Q0 (And.intro hid0 hid)
  clear hid0 hid
  go_upto_region 6 with fail
  obtain⟨xt,hxt⟩:∃xt,got S.T.tx id=xt:=⟨_,rfl⟩
  rw[hxt]
  have HL3:Sc (Q8 (Q1 S) (Q1 (S.Y1 n wr1)) w1 (w2.alloc (.cells #[.int .i64 xt.1,.int .i64 xt.2.1,.int .i64 xt.2.2.1,.int .i64 xt.2.2.2] 58))):=⟨Part.Qs HL1.o (Q3 (Below.refl _ _) _)⟩
  obtain⟨w3,hw3⟩:∃w3,w2.alloc (.cells #[.int .i64 xt.1,.int .i64 xt.2.1,.int .i64 xt.2.2.1,.int .i64 xt.2.2.2] 58)=w3:=⟨_,rfl⟩
  rw[hw3]at HL3 ⊢
  clear hw3 hxt
  obtain⟨S1,hS1⟩:∃S1,S.Y1 n wr1=S1:=⟨_,rfl⟩
  have HS1:=Q0 hS1
  rw[hS1]at HL3 HC1
  have HSB1:Sc (S1.T.sb=sb/\S1.T.lk=S.T.lk):=⟨by rw[<-hS1];exact⟨HSB.o,rfl⟩⟩
  have CW:Sc (Calls Tryz.prog 138 #[.pointer (some ⟨sb,7,none⟩),.int .i64 n,.int .i64 key,.int .i64 mode] w3 fun e w'=>∃v',e=.returned v'/\Own X6 1 3 0 w' v' (D6 n key mode S.T.lk)/\Below w3.heap.size w3 w'):=⟨by
   have:=X6p w3 S1 n key mode HL3.o.1 (by rw[HSB1.o.2];exact HLK.o)
   rw[HSB1.o.1,HSB1.o.2]at this
   exact this⟩
  have lt3:sb<w3.heap.size:=by have:=HL3.o.1.sto.cells.2.2.2.2.2.2.2;rw[HSB1.o.1]at this;exact this
  clear hS1
  go_wp2_with fail
  refine CW.o.mono ?_
  rintro e w4 ⟨v4,rfl,ho4,hb4⟩
  obtain⟨who,hwho⟩:∃who,D6 n key mode S.T.lk=who:=⟨_,rfl⟩
  rw[hwho]at ho4
  have HWHO:=Q0 hwho
  have HL4:=Q0 (Part.Qs HL3.o hb4)
  obtain⟨A4,c4,rfl,_,_⟩:=ho4.slice
  obtain⟨m4,hm4⟩:∃m4,who.length=m4:=⟨_,rfl⟩
  rw[hm4]at ho4 ⊢
  have HM4:=Q0 hm4
  have HO4:=Q0 ho4
  have HML:Sc (who.length<=k):=⟨by rw[<-hwho];exact Nat.le_trans (Y1n _ _ _) HC.o.lk⟩
  have lt4:sb<w4.heap.size:=by have:=hb4.size;omega
  clear hb4 ho4 hwho hm4 lt3
  by_cases hw0:m4=0
  ·have e0:¬((0:Int)<(m4:Int)):=by omega
   have HW0:Sc (D6 n key mode S.T.lk=[]):=⟨by rw[HWHO.o];exact List.eq_nil_of_length_eq_zero (by rw[HM4.o];exact hw0)⟩
   have CT:Sc (Calls Tryz.prog 141 #[.pointer (some ⟨sb,7,none⟩),.int .i64 n,.int .i64 key,.int .i64 mode] w4 fun e w'=>e=.returned (.bool true)/\∃r',Q8 (Q1 S1) (Q1 (S1.Q4n r' (Zu n key mode S.T.lk))) w4 w'):=⟨by
    have:=X3m w4 S1 n key mode HL4.o.1 (by rw[HSB1.o.2];exact HLK.o) HM.o (by rw[HSB1.o.2];exact HW0.o)
    rw[HSB1.o.1,HSB1.o.2]at this
    exact this⟩
   clear hw0
   go_wp2_with fail
   refine CT.o.mono ?_
   rintro e w5 ⟨rfl,kr5,hl5⟩
   obtain⟨S2,hS2⟩:∃S2,S1.Q4n kr5 (Zu n key mode S.T.lk)=S2:=⟨_,rfl⟩
   have HS2:=Q0 hS2
   rw[hS2]at hl5
   have HL5:=Q0 (Part.trans HL4.o hl5)
   have HSB2:Sc (S2.T.sb=sb/\S2.P=S.P/\S2.T.pages=S.P.pages/\S2.T.pb=S.P.O.pb/\S2.T.lk=Zu n key mode S.T.lk):=⟨by rw[<-hS2,<-HS1.o];exact⟨HSB.o,rfl,HZ0.o.pg,HZ0.o.pp,rfl⟩⟩
   obtain⟨pn,hpn⟩:∃pn:Nat,Zr key S.P.pages=pn:=⟨(Zr key S.P.pages).toNat,by have:=(Q1i key (pages:=S.P.pages) (by have:=HZ0.o.X2.plain.pg.1;omega)).1;omega⟩
   have HPN:=Q0 hpn
   have HPN2:Sc (1<=pn/\pn<=S.P.pages):=⟨by have:=Q1i key (pages:=S.P.pages) (by have:=HZ0.o.X2.plain.pg.1;omega);rw[hpn]at this;omega⟩
   obtain⟨c0,_,_,_,c6,_,_,lt⟩:=HL5.o.1.sto.cells
   rw[HSB2.o.1]at c0 c6 lt
   rw[HSB2.o.2.2.1]at c0
   rw[HSB2.o.2.2.2.1]at c6
   obtain⟨pb,hpb⟩:∃pb,S.P.O.pb=pb:=⟨_,rfl⟩
   rw[hpb]at c6
   have CPL:Sc (∀X,Calls Tryz.prog 101 #[.int .i64 key,.int .i64 S.P.pages] X fun e w'=>e=.returned (.int .i64 pn)/\X=w'):=⟨fun X=>by
    have:=Dg X key S.P.pages (by have:=HZ0.o.X2.plain.pg.1;omega) (by have:=HZ0.o.X2.plain.pg.2;omega)
    rw[hpn]at this
    exact this⟩
   have CG:Sc (∀X,Below w5.heap.size w5 X->Calls Tryz.prog 114 #[.pointer (some ⟨pb,0,none⟩),.int .i64 pn,.int .i64 hint] X fun e w'=>∃P' g,e=.returned (.tuple #[Zn g.lsn g.v,X5 0])/\Q8 (Q1 S2) (Q1 {S2 with P:=P'}) w5 w'/\Calm S.P P' 1/\g∈P'.O.fr/\g.n=pn):=⟨fun X hX=>by
    have hx:=(Q1 S2).bel HL5.o.1 hX
    have h1:=Q2i X S2.P pn hint hx.X2 (by rw[HSB2.o.2.1];have:=HC.o.vm;have:=HV.o;omega) HPN2.o.1 (by rw[HSB2.o.2.1];exact HPN2.o.2) HHINT.o
    rw[show S2.P.O.pb=pb from by rw[HSB2.o.2.1,hpb]]at h1
    refine h1.mono ?_
    rintro e w' ⟨P',g,he,hl,hcm,hg,hgn⟩
    exact⟨P',g,he,Part.from_ (hx.Uj hl hcm.same) hX,by rw[<-HSB2.o.2.1];exact hcm,hg,hgn⟩⟩
   have HQ:Sc (Below w5.heap.size w5 w5):=⟨Below.refl _ _⟩
   clear hl5 hS2 hpn hpb
   go_wp2_with fail
   go_region_law
    (first
     |(go_simp;go_at_call 101;go_loud (refine(CPL.o _).mono ?_;rintro e wt ⟨rfl,rfl⟩))
     |(go_simp;go_at_call 114;go_loud (refine(CG.o _ (by first|with_reducible exact HQ.o|with_reducible exact Below.drew HQ.o)).mono ?_;rintro e wt ⟨P',g,rfl,hl,hcm,hg,hgn⟩;have HL9:=Q0 (Part.trans HL5.o hl);have HCM:=Q0 hcm;have HGG:=Q0 (And.intro hg hgn);obtain⟨p0,p1,z0,z1,z2,x0,x1,y0,y1,y2,l6,l7⟩:=Ud (HRES.o wt (Part.trans HL5.o hl).2.1);clear hl hcm hg hgn)))
   all_goals
    go_wp2
    refine bodyPost_ret (v:=.tuple #[Zn g.lsn g.v,X5 0]) (by simp[results,Tryz.results98,go_sem,p0,p1,z0,z1,z2]) rfl ⟨{S2 with P:=P'},⟨?_,by rw[<-HS2.o,<-HS1.o];exact Ys S.T,HCM.o.same,by rw[<-HS2.o,<-HS1.o];rfl,by rw[<-HS2.o,<-HS1.o];rfl,by rw[<-HS2.o,<-HS1.o];rfl,by rw[<-HS2.o,<-HS1.o];rfl,HCM.o.tab,fun s k' hk'=>by show(s,k',(2:Int))∈S2.T.lk;rw[HSB2.o.2.2.2.2];exact X3q (by have:=HM.o;omega) hk'⟩,?_,.inr ⟨g,id,rfl,HGG.o.1,by rw[HGG.o.2,HPN.o],HID.o.1,HID.o.2,fun h2=>by show((n:Int),key,(2:Int))∈S2.T.lk;rw[HSB2.o.2.2.2.2,h2];exact Y0s HC.o.md⟩⟩
    ·refine Part.boxed (A:=Q1 S) HZ0.o HB1.o HL9.o ?_
     have e1:=HBS.o
     have e2:=HB6.o
     repeat (first|with_reducible exact Kp.Vd|with_reducible refine Kp.drew ?_|with_reducible refine Kp.put ?_ ⟨by omega,by omega⟩ _)
    ·have hT:S2.T={S.T with wr:=wr1,wt:=Zd n S.T.wt,kr:=kr5,lk:=Zu n key mode S.T.lk}/\S2.f=S.f/\S2.k=S.k:=by rw[<-HS2.o,<-HS1.o];exact⟨rfl,rfl,rfl⟩
     refine⟨?_,?_,?_,?_,?_,?_,?_,by omega,?_,?_⟩
     ·rw[hT.1];exact HC.o.Qu
     ·rw[hT.1];exact Nat.le_trans (Y0t n key mode S.T.lk) (Nat.succ_le_succ HC.o.lk)
     ·rw[hT.1];exact Nat.le_trans (Nat.le_trans (Zo n S.T.wt) HC.o.wt) (Nat.mul_le_mul (Nat.le_succ k) (Nat.le_succ k))
     ·rw[hT.1];exact Nat.le_succ_of_le HC.o.tx
     ·rw[hT.1];have:=HC.o.most;show S.T.most<=((k+1:Nat):Int);omega
     ·have:=HCM.o.vm;have:=HC.o.vm;show P'.D.vm<=v+1;omega
     ·show S2.f+S2.k<=400;rw[hT.2.1,hT.2.2];exact HC.o.sp
     ·rw[hT.1];exact HC.o.sav
     ·rw[hT.1];exact Y3s (by have:=HM.o;omega) HC.o.md
  ·have e0:(0:Int)<(m4:Int):=by omega
   have CWT:Sc (Calls Tryz.prog 139 #[.pointer (some ⟨sb,8,none⟩),.int .i64 n,.slice A4 m4 c4] w4 fun e w'=>e=.returned (.tuple #[])/\∃r',Q8 (Q1 S1) (Q1 (S1.waits r' (Zd n S1.T.wt++G8 n who))) w4 w'):=⟨by
    have:=X3n w4 S1 n (.slice A4 m4 c4) who HL4.o.1 HC1.o.wt2 HO4.o (HL4.o.1.sto.Y6i HO4.o) (by have:=HML.o;omega)
    rw[HSB1.o.1]at this
    exact this⟩
   clear hw0
   go_wp2_with fail
   refine CWT.o.mono ?_
   rintro e w5 ⟨rfl,wr5,hl5⟩
   obtain⟨S2,hS2⟩:∃S2,S1.waits wr5 (Zd n S1.T.wt++G8 n who)=S2:=⟨_,rfl⟩
   have HS2:=Q0 hS2
   rw[hS2]at hl5
   have HL5:=Q0 (Part.trans HL4.o hl5)
   have HSB2:Sc (S2.T.sb=sb):=⟨by rw[<-hS2];exact HSB1.o.1⟩
   have HC2:Sc (Cnt S2 (k+1) (v+1)):=⟨by
    rw[<-hS2,<-HS1.o]
    refine⟨HC.o.Qu,Nat.le_succ_of_le HC.o.lk,?_,Nat.le_succ_of_le HC.o.tx,by have:=HC.o.most;show S.T.most<=_;omega,Nat.le_succ_of_le HC.o.vm,HC.o.sp,by omega,HC.o.sav,HC.o.md⟩
    show(Zd n (Zd n S.T.wt)++G8 n who).length<=(k+1)*(k+1)
    have h1:=Zo n (Zd n S.T.wt)
    have h2:=Zo n S.T.wt
    have h3:=HC.o.wt
    have h4:=Q0k n who
    have h5:=HML.o
    rw[List.length_append]
    have h6:(k+1)*(k+1)=k*k+k+k+1:=by rw[Nat.add_mul,Nat.mul_add,Nat.mul_one,Nat.one_mul];omega
    omega⟩
   have CCY:Sc (Calls Tryz.prog 140 #[.pointer (some ⟨sb,8,none⟩),.int .i64 n] w5 fun e w'=>Q3t e/\Below w5.heap.size w5 w'):=⟨by
    have:=X0j w5 S2 n HL5.o.1 HC2.o.wt2
    rw[HSB2.o]at this
    exact this⟩
   have lt5:sb<w5.heap.size:=by have:=HL5.o.1.sto.cells.2.2.2.2.2.2.2;rw[HSB2.o]at this;exact this
   clear hl5 hS2
   go_wp2_with fail
   refine CCY.o.mono ?_
   rintro e w6 ⟨⟨b,rfl⟩,hb6'⟩
   have HL6:=Q0 (Part.Qs HL5.o hb6')
   have lt6:sb<w6.heap.size:=by have:=hb6'.size;omega
   clear hb6'
   cases b with
   |true=>
    have CCL:Sc (Calls Tryz.prog 136 #[.pointer (some ⟨sb,8,none⟩),.int .i64 n] w6 fun e w'=>e=.returned (.tuple #[])/\∃wr',Q8 (Q1 S2) (Q1 (S2.Y1 n wr')) w6 w'):=⟨by
     have:=Q0t w6 S2 n HL6.o.1 HC2.o.wt2
     rw[HSB2.o]at this
     exact this⟩
    go_wp2_with fail
    refine CCL.o.mono ?_
    rintro e w7 ⟨rfl,wr7,hl7⟩
    have HL7:=Q0 (Part.trans HL6.o hl7)
    clear hl7
    go_wp2_with fail
    refine(Yb _ 112).mono ?_
    rintro e w9 ⟨rfl,hb9⟩
    have HL9:=Q0 (Part.Qs HL7.o hb9)
    obtain⟨p0,p1,z0,z1,z2,x0,x1,y0,y1,y2,l6,l7⟩:=Ud (HRES.o w9 HL9.o.2.1)
    clear hb9
    go_wp2
    refine bodyPost_ret (v:=.tuple #[Zn 0 (.slice none 0 0),X5 112]) (by simp[results,Tryz.results98,go_sem,p0,p1,z0,z1,z2]) rfl ⟨S2.Y1 n wr7,⟨?_,by rw[<-HS2.o,<-HS1.o];exact Ys S.T,by rw[<-HS2.o,<-HS1.o];exact G5.refl S.P,by rw[<-HS2.o,<-HS1.o];rfl,by rw[<-HS2.o,<-HS1.o];rfl,by rw[<-HS2.o,<-HS1.o];rfl,by rw[<-HS2.o,<-HS1.o];rfl,by rw[<-HS2.o,<-HS1.o];exact fun _ h=>h,by rw[<-HS2.o,<-HS1.o];exact fun _ _ h=>h⟩,HC2.o.Y1 n wr7,.inl ⟨112,by decide,rfl⟩⟩
    refine Part.boxed (A:=Q1 S) HZ0.o HB1.o HL9.o ?_
    have e1:=HBS.o
    have e2:=HB6.o
    repeat (first|with_reducible exact Kp.Vd|with_reducible refine Kp.drew ?_|with_reducible refine Kp.put ?_ ⟨by omega,by omega⟩ _)
   |false=>
    go_wp2_with fail
    refine(Yb _ 111).mono ?_
    rintro e w9 ⟨rfl,hb9⟩
    have HL9:=Q0 (Part.Qs HL6.o hb9)
    obtain⟨p0,p1,z0,z1,z2,x0,x1,y0,y1,y2,l6,l7⟩:=Ud (HRES.o w9 HL9.o.2.1)
    clear hb9
    go_wp2
    refine bodyPost_ret (v:=.tuple #[Zn 0 (.slice none 0 0),X5 111]) (by simp[results,Tryz.results98,go_sem,p0,p1,z0,z1,z2]) rfl ⟨S2,⟨?_,by rw[<-HS2.o,<-HS1.o];exact Ys S.T,by rw[<-HS2.o,<-HS1.o];exact G5.refl S.P,by rw[<-HS2.o,<-HS1.o];rfl,by rw[<-HS2.o,<-HS1.o];rfl,by rw[<-HS2.o,<-HS1.o];rfl,by rw[<-HS2.o,<-HS1.o];rfl,by rw[<-HS2.o,<-HS1.o];exact fun _ h=>h,by rw[<-HS2.o,<-HS1.o];exact fun _ _ h=>h⟩,HC2.o,.inl ⟨111,by decide,rfl⟩⟩
    refine Part.boxed (A:=Q1 S) HZ0.o HB1.o HL9.o ?_
    have e1:=HBS.o
    have e2:=HB6.o
    repeat (first|with_reducible exact Kp.Vd|with_reducible refine Kp.drew ?_|with_reducible refine Kp.put ?_ ⟨by omega,by omega⟩ _)
end Go.Proofs.YtoapihepdallbaaGreatDoor
