import Derived.Test.YtoapihepdallbaaGreatDoorP31
namespace Go.Proofs.YtoapihepdallbaaGreatDoor
open Go.RowKit
theorem X2r(w:World)(n:Int)(v:Value)(l:List (Int×Int))(lsn:Int)(r:Q9)(hown:Own Qj 2 227 0 w v l)(hr:Qd l)(hlen:l.length<=100000)(hk:r.kind=2\/r.kind=3)(hn:n<lsn)(hfit:r.has=true->(has l r.key=true\/l.length<20)):
  Calls Tryz.prog 159 #[Zn n v,.int .i64 lsn,Yg r] w fun e w'=>∃A k c,e=.returned (.tuple #[Zn lsn (.slice A k c),.bool true,.int .i64 0])/\Own Qj 2 227 w.heap.size w' (.slice A k c) (Yj l r)/\Below w.heap.size w w':=by
 unfold Yj
 cases hh:r.has with
 |false=>rw[if_neg (by simp)];exact Q2x w 0 w.heap.size n v l lsn r hown (Nat.le_refl _) hr hlen hk hn hh
 |true=>rw[if_pos rfl];exact Q5d w 0 w.heap.size n v l lsn r hown (Nat.le_refl _) hr hlen hk hn hh (hfit hh)
structure Y3x(S S':WG)(r:Q9)(nx:Int)(l':List (Int×Int)):Prop where
 abs:S'.abs={S.abs with L:=S.P.L++[r],tx:=upd S.T.tx r.txn (fun y=>(y.1,(S.P.L.length:Int)+1,nx)),pv:=fun m=>if m=r.page then((S.P.L.length:Int)+1,l') else S.P.pv m,tab:=add S.P.O.tab (r.page,(S.P.L.length:Int)+1)}
 pages:S'.P.pages=S.P.pages
 bl:S'.P.bl=S.P.bl
 kept:Kept S.T S'.T
 wt:S'.T.wt=S.T.wt
 sav:S'.T.sav=S.T.sav
 f:S'.f=S.f
 k:S'.k=S.k
 vm:S'.P.D.vm=S.P.D.vm
def Q0w(S:WG)(r:Q9)(a c:Int)(w w':World):Prop:=
 ((Qq r=true/\S.P.L.length<6*S.P.bl)/\a=(S.P.L.length:Int)+1/\c=0/\∃row',Q8 (Q1 S) (Q1 (S.Xg row' (S.P.L++[r]))) w w')\/
 ((Qq r=false\/6*S.P.bl<=S.P.L.length)/\a=0/\c≠0/\∃row',Q8 (Q1 S) (Q1 (S.Xg row' S.P.L)) w w')
theorem O0(w0 w:World)(S:WG)(r:Q9)(h0:Qh S w0)(hb:Below w0.heap.size w0 w):
  Calls Tryz.prog 26 #[.pointer (some ⟨S.T.lb,0,none⟩),Yg r] w fun e w'=>∃a c:Int,e=.returned (.tuple #[.int .i64 a,.int .i64 c])/\Q0w S r a c w0 w':=by
 refine(Q2n w S r ((Q1 S).bel h0 hb)).mono ?_
 rintro e w' (⟨h1,he,row',hl⟩|⟨h1,c,hc,he,row',hl⟩)
 ·exact⟨_,_,he,.inl ⟨h1,rfl,rfl,row',Part.from_ hl hb⟩⟩
 ·exact⟨_,_,he,.inr ⟨h1,rfl,hc,row',Part.from_ hl hb⟩⟩
def Q3q(S:WG)(r:Q9)(nx:Int)(l':List (Int×Int))(w:World)(e:Ending)(w':World):Prop:=
 (∃c row',c≠0/\e=.returned (X5 c)/\(Qq r=false\/6*S.P.bl<=S.P.L.length)/\Q8 (Q1 S) (Q1 (S.Xg row' S.P.L)) w w')\/
 (∃S',e=.returned (X5 0)/\Qq r=true/\S.P.L.length<6*S.P.bl/\Q8 (Q1 S) (Q1 S') w w'/\Y3x S S' r nx l')
set_option maxRecDepth 4000 in
set_option maxHeartbeats 8000000 in
theorem X1l(w:World)(S:WG)(g:FrV)(r:Q9)(next nx:Int)(h:Qh S w)(hg:g∈S.P.O.fr)(hgn:g.n=r.page)(hk:r.kind=2\/r.kind=3)(hnx:nx=if r.kind=2 then(S.P.L.length:Int)+1 else next)(ht:S.T.tx.length<=1000000)
  (hfit:S.P.L.length<6*S.P.bl->g.lsn<(S.P.L.length:Int)+1/\(r.has=true->(has g.l r.key=true\/g.l.length<20))/\OkP ((S.P.L.length:Int)+1) (Yj g.l r)/\G6 (Yj g.l r)):
  Calls Tryz.prog 143 #[.pointer (some ⟨S.T.sb,0,none⟩),Zn g.lsn g.v,Yg r,.int .i64 next] w (Q3q S r nx (Yj g.l r) w):=by
 have HZ0:=Q0 h
 obtain⟨gn,glsn,gA,gs,gc,gl⟩:=g
 have HG:=Q0 (And.intro hg hgn)
 have HK:=Q0 hk
 have HNX:=Q0 hnx
 have HT:=Q0 ht
 have HFIT:=Q0 hfit
 obtain⟨w1,hw1⟩:∃w1,((w.alloc (.cells #[.int .i64 glsn,.slice gA gs gc] 197)).alloc (.cells (Qe r) 49)).alloc (.cells fz 41)=w1:=⟨_,rfl⟩
 have HB1:Sc (Below w.heap.size w w1):=⟨hw1▸Q3 (Q3 (Q3 (Below.refl _ _) _) _) _⟩
 have H3:=X7m w (.cells #[.int .i64 glsn,.slice gA gs gc] 197) (.cells (Qe r) 49) (.cells fz 41)
 rw[hw1]at H3
 have HZ:Sc (Qh S w1):=⟨(Q1 S).bel h HB1.o⟩
 have HBS:Sc (w1.heap.size=w.heap.size+3):=⟨by rw[<-hw1];simp⟩
 obtain⟨b5,hb5⟩:∃b,w.heap.size=b:=⟨_,rfl⟩
 have HB5:=Q0 hb5
 rw[hb5]at H3
 have H3:=Q0 H3
 have HBX:Sc (∀W,Kp (Q1 S).U w1 W->W.heap[b5]? =some (.cells #[.int .i64 glsn,.slice gA gs gc] 197 (0,0))/\W.heap[b5+1]? =some (.cells (Qe r) 49 (0,0))/\W.heap[b5+1+1]? =some (.cells fz 41 (0,0))):=⟨fun W hk=>by
  have hno:∀q,b5<=q->¬(Q1 S).U q:=fun q hq hu=>by have:=(Q1 S).lt HZ0.o _ hu;have:=HB5.o;omega
  exact⟨hk.at H3.o.1 (hno _ (Nat.le_refl _)),hk.at H3.o.2.1 (hno _ (by omega)),hk.at H3.o.2.2 (hno _ (by omega))⟩⟩
 obtain⟨sb,hsb⟩:∃sb,S.T.sb=sb:=⟨_,rfl⟩
 have HSB:=Q0 hsb
 obtain⟨_,_,_,c5,_,_,_,lt⟩:=HZ.o.sto.cells
 rw[hsb]at c5 lt ⊢
 obtain⟨lb,hlb⟩:∃lb,S.T.lb=lb:=⟨_,rfl⟩
 rw[hlb]at c5
 have CAP:Sc (∀X,Below w1.heap.size w1 X->Calls Tryz.prog 26 #[.pointer (some ⟨lb,0,none⟩),Yg r] X fun e w'=>∃a c:Int,e=.returned (.tuple #[.int .i64 a,.int .i64 c])/\Q0w S r a c w1 w'):=⟨fun X hX=>by
  have:=O0 w1 X S r HZ.o hX
  rw[hlb]at this
  exact this⟩
 obtain⟨r0,r1,r2,r3,r4,r5,r6,r7,r8,r9⟩:=Qb H3.o.2.1
 have HQ:Sc (Below w1.heap.size w1 w1):=⟨Below.refl _ _⟩
 clear h hg hgn hk hnx ht hfit hsb hlb
 go_enter Tryz.func143,Tryz.ntmps143
 go_upto_region 1 with fail
 try rw[hw1]
 try rw[hb5]
 clear hw1 hb5
 go_region_law
  (first
   |(go_simp;go_at_call 26;go_loud (refine(CAP.o _ (by first|with_reducible exact HQ.o|with_reducible exact Below.drew HQ.o)).mono ?_;rintro e w2 ⟨a2,e2,rfl,ha2⟩;have HA2:=Q0 ha2;clear ha2)))
 all_goals
  clear c5 lt r0 r1 r2 r3 r4 r5 r6 r7 r8 r9
  rcases HA2.o with ⟨hgl,rfl,rfl,row2,hl2⟩|⟨hgl,rfl,hc0,row2,hl2⟩
  ·have HGL:=Q0 hgl
   have HL2:=Q0 hl2
   obtain⟨S2,hS2⟩:∃S2,S.Xg row2 (S.P.L++[r])=S2:=⟨_,rfl⟩
   have HS2:=Q0 hS2
   rw[hS2]at HL2
   obtain⟨lsn,hlsn⟩:∃lsn,(S.P.L.length:Int)+1=lsn:=⟨_,rfl⟩
   have HLSN:=Q0 hlsn
   rw[hlsn]
   have HSB2:Sc (S2.T.sb=sb/\S2.T.tx=S.T.tx/\S2.T.most=S.T.most):=⟨by rw[<-hS2];exact⟨HSB.o,rfl,rfl⟩⟩
   have h3:=HBX.o w2 hl2.2.1
   obtain⟨r0,r1,r2,r3,r4,r5,r6,r7,r8,r9⟩:=Qb h3.2.1
   have lb6:=Q6 h3.2.1
   clear hl2 hS2 hlsn hgl h3
   go_upto_if 29 with fail
   go_cut [3] from 27 to 30 (fun s3 wx=>s3=.int .i64 nx/\wx=w2)
   case first=>
    by_cases hk2:r.kind=2
    ·have e2:(r.kind==2)=true:=by simp[hk2]
     have hnx:lsn=nx:=by have:=HNX.o;rw[if_pos hk2]at this;rw[this];exact HLSN.o.symm
     subst hnx
     clear hk2
     go_wp2_with fail
     go_meet
     case rel=>exact⟨rfl,rfl⟩
    ·have e2:(r.kind==2)=false:=by simp[hk2]
     have hnx:next=nx:=by have:=HNX.o;rw[if_neg hk2]at this;exact this.symm
     subst hnx
     clear hk2
     go_wp2_with fail
     go_meet
     case rel=>exact⟨rfl,rfl⟩
   case rest=>
    obtain⟨rfl,rfl⟩:=hcut
    have CN:Sc (∀X,Below wc.heap.size wc X->Calls Tryz.prog 85 #[.pointer (some ⟨sb,9,none⟩),.int .i64 r.txn,.int .i64 lsn,.int .i64 nx] X fun e w'=>e=.returned (.bool (has S.T.tx r.txn))/\(∃tr',Q8 (Q1 S2) (Q1 (S2.trans tr' (upd S.T.tx r.txn (fun y=>(y.1,lsn,nx))) S.T.most)) wc w')/\w'.cell? ⟨b5+1,1,none⟩=some (.int .i64 r.txn)):=⟨fun X hX=>by
     have h1:=D0 X S2 r.txn lsn nx ((Q1 S2).bel HL2.o.1 hX) (by rw[HSB2.o.2.1];exact HT.o)
     rw[HSB2.o.1,HSB2.o.2.1,HSB2.o.2.2]at h1
     refine h1.mono ?_
     rintro e w' ⟨he,tr',hl⟩
     have hl':=Part.from_ hl hX
     exact⟨he,⟨tr',hl'⟩,(Qb (HBX.o w' (Part.trans HL2.o hl').2.1).2.1).2.1⟩⟩
    have HSW:Sc (∀W,Below wc.heap.size wc W->W.cell? ⟨b5+1,1,none⟩=some (.int .i64 r.txn)):=⟨fun W hW=>(hW.cell lb6).trans r1⟩
    have HR:Sc (Below wc.heap.size wc wc):=⟨Below.refl _ _⟩
    go_wp2_with fail
    go_region_held3 (fun W=>W.cell? ⟨b5+1,1,none⟩=some (.int .i64 r.txn))
     (first|with_reducible exact HSW.o _ HR.o|with_reducible exact HSW.o _ (Below.drew HR.o)|with_reducible exact HS3.o)
     (first
      |(go_at_call 85;go_loud (refine(CN.o _ (by first|with_reducible exact HR.o|with_reducible exact Below.drew HR.o)).mono ?_;rintro e w3 ⟨rfl,hl3,hs3⟩;have HS3:=Q0 hs3;have HX3:=Q0 hl3;clear hl3 hs3)))
    obtain⟨tr3,hl3⟩:=HX3.o
    obtain⟨S3,hS3⟩:∃S3,S2.trans tr3 (upd S.T.tx r.txn (fun y=>(y.1,lsn,nx))) S.T.most=S3:=⟨_,rfl⟩
    have HS3E:=Q0 hS3
    rw[hS3]at hl3
    have HL3:=Q0 (Part.trans HL2.o hl3)
    have HP3:Sc (S3.T.sb=sb/\S3.P={S.P with Js:=row2,L:=S.P.L++[r]}):=⟨by rw[<-hS3,<-HS2.o];exact⟨HSB.o,rfl⟩⟩
    obtain⟨x5,x6,x8⟩:=HBX.o w3 HL3.o.2.1
    obtain⟨p0,p1⟩:=Qf x5
    obtain⟨r0,r1,r2,r3,r4,r5,r6,r7,r8,r9⟩:=Qb x6
    have HGE:Sc (Own Qj 2 227 0 w3 (.slice gA gs gc) gl):=⟨HL3.o.1.X2.own.Q1e ⟨gn,glsn,gA,gs,gc,gl⟩ (by rw[HP3.o.2];exact HG.o.1)⟩
    have HOKG:Sc (OkP glsn gl):=⟨by
     have h1:=(HZ0.o.X2.plain.here _ HG.o.1).2.2
     have h2:=(HZ0.o.X2.plain.ok gn).1
     rw[h1]at h2
     exact h2⟩
    have HFT:=Q0 (HFIT.o HGL.o.2)
    have CR:=Q0 (X2r w3 glsn (.slice gA gs gc) gl lsn r HGE.o HOKG.o.2.2.2.2.rising (by have:=HOKG.o.2.2.1;omega) HK.o (by have:=HFT.o.1;have:=HLSN.o;omega) HFT.o.2.1)
    clear hl3 hS3 x5 x6 x8 lb6
    go_wp2_with fail
    refine CR.o.mono ?_
    rintro e w4 ⟨A,k,c,rfl,ho4,hb4⟩
    go_upto_region 10 with fail
    obtain⟨w5,hw5⟩:∃w5,w4.alloc (.cells #[.int .i64 lsn,.slice A k c] 197)=w5:=⟨_,rfl⟩
    obtain⟨b11,hb11⟩:∃b11,w4.heap.size=b11:=⟨_,rfl⟩
    have HB35:Sc (Below w3.heap.size w3 w5):=⟨by rw[<-hw5];exact Q3 hb4 _⟩
    have HO5:Sc (Own Qj 2 227 w3.heap.size w5 (.slice A k c) (Yj gl r)):=⟨by rw[<-hw5];exact ho4.alloc _⟩
    have HN5:Sc (w5.heap[b11]? =some (.cells #[.int .i64 lsn,.slice A k c] 197 (0,0))):=⟨by rw[<-hw5,<-hb11];exact heap_alloc_new _ _⟩
    rw[hw5]
    try rw[hb11]
    have HB11:Sc (w3.heap.size<=b11):=⟨by rw[<-hb11];exact hb4.size⟩
    clear ho4 hb4 hw5 hb11 p0 p1 r0 r1 r2 r3 r4 r5 r6 r7 r8 r9
    obtain⟨pn,hpn⟩:∃pn:Nat,r.page=pn:=⟨r.page.toNat,by have:=(HZ0.o.X2.plain.here _ HG.o.1).1;have h2:gn=r.page:=HG.o.2;have h3:(1:Int)<=gn:=this;omega⟩
    have HPN:=Q0 hpn
    obtain⟨x5,x6,x8⟩:=HBX.o w5 (HL3.o.2.1.trans (Kp.Qi HB35.o (fun _=>False)) (fun _ h=>h.elim))
    obtain⟨r0,r1,r2,r3,r4,r5,r6,r7,r8,r9⟩:=Qb x6
    rw[hpn]at r2
    obtain⟨n0,n1⟩:=Qf HN5.o
    have HZ5:Sc (Qh S3 w5):=⟨(Q1 S3).bel HL3.o.1 HB35.o⟩
    obtain⟨_,_,_,_,c6,_,_,lt⟩:=HZ5.o.sto.cells
    rw[HP3.o.1]at c6 lt
    obtain⟨pb,hpb⟩:∃pb,S3.T.pb=pb:=⟨_,rfl⟩
    rw[hpb]at c6
    have CST:Sc (∀X,Below w5.heap.size w5 X->Calls Tryz.prog 160 #[.pointer (some ⟨pb,0,none⟩),.int .i64 pn,.agg #[.int .i64 lsn,.slice A k c]] X fun e w'=>e=.returned (.int .i64 0)/\∃kf trow,Q8 (Q1 S3) (Q1 {S3 with P:=S3.P.set kf ⟨gn,glsn,gA,gs,gc,gl⟩ lsn A k c (Yj gl r) trow}) w3 w'):=⟨fun X hX=>by
     have h1:=X2l w3 X S3.P pn ⟨gn,glsn,gA,gs,gc,gl⟩ lsn A k c (Yj gl r) HL3.o.1.X2 (HB35.o.trans (hX.mono HB35.o.size)) (by rw[HP3.o.2];exact HG.o.1) (by rw[<-HPN.o];exact HG.o.2) (HO5.o.below hX) (by rw[<-HLSN.o];exact HFT.o.2.2.1) HFT.o.2.2.2
     rw[show S3.P.O.pb=pb from by rw[<-HL3.o.1.pp];exact hpb]at h1
     refine h1.mono ?_
     rintro e w' ⟨he,P',hl,kf,trow,rfl⟩
     exact⟨he,kf,trow,HL3.o.1.Oi hl rfl rfl rfl rfl rfl⟩⟩
    have HR:Sc (Below w5.heap.size w5 w5):=⟨Below.refl _ _⟩
    clear hpn hpb
    go_region_law
     (first
      |(go_simp;go_at_call 160;go_loud (refine(CST.o _ (by first|with_reducible exact HR.o|with_reducible exact Below.drew HR.o)).mono ?_;rintro e w6 ⟨rfl,kf,trow,hl6⟩;have HL6:=Q0 (Part.trans HL3.o hl6);clear hl6))
      |(go_simp;go_at_call 61;go_loud (refine(Yb _ 0).mono ?_;rintro e w7 ⟨rfl,hb7⟩;have HL7:=Q0 (Part.Qs HL6.o hb7);obtain⟨z0,z1,z2,y0,y1,y2,lz⟩:=Q7 (HBX.o w7 (Part.Qs HL6.o hb7).2.1).2.2;clear hb7)))
    all_goals
     go_wp2
     refine bodyPost_ret (v:=X5 0) (by simp[results,Tryz.results143,go_sem,z0,z1,z2]) rfl (.inr ⟨{S3 with P:=S3.P.set kf ⟨gn,glsn,gA,gs,gc,gl⟩ lsn A k c (Yj gl r) trow},rfl,HGL.o.1,HGL.o.2,?_,?_⟩)
     ·refine Part.boxed (A:=Q1 S) HZ0.o HB1.o HL7.o ?_
      have e1:=HBS.o
      have e3:=HB5.o
      repeat (first|with_reducible exact Kp.Vd|with_reducible refine Kp.drew ?_|with_reducible refine Kp.put ?_ ⟨by omega,by omega⟩ _)
     ·have hgn:gn=r.page:=HG.o.2
      rw[<-HS3E.o,<-HS2.o,<-HLSN.o]
      refine⟨?_,rfl,rfl,Ys S.T,rfl,rfl,rfl,rfl,rfl⟩
      rw[<-hgn]
      rfl
  ·have HC0:=Q0 hc0
   have e0:(e2 !=0)=true:=by simp[hc0]
   have HGL:=Q0 hgl
   have HL2:=Q0 hl2
   clear hl2 hgl hc0
   go_wp2_with fail
   refine(Yb _ e2).mono ?_
   rintro e w3 ⟨rfl,hb3⟩
   have HL3:=Q0 (Part.Qs HL2.o hb3)
   obtain⟨z0,z1,z2,y0,y1,y2,lz⟩:=Q7 (HBX.o w3 HL3.o.2.1).2.2
   clear hb3
   go_wp2
   refine bodyPost_ret (v:=X5 e2) (by simp[results,Tryz.results143,go_sem,z0,z1,z2]) rfl (.inl ⟨e2,row2,HC0.o,rfl,HGL.o,?_⟩)
   refine Part.boxed (A:=Q1 S) HZ0.o HB1.o HL3.o ?_
   have e1:=HBS.o
   have e3:=HB5.o
   repeat (first|with_reducible exact Kp.Vd|with_reducible refine Kp.drew ?_|with_reducible refine Kp.put ?_ ⟨by omega,by omega⟩ _)
structure Y6p(S S':WG)(n:Nat)(id last:Int):Prop where
 abs:S'.abs=S.abs.ended n id last
 pages:S'.P.pages=S.P.pages
 bl:S'.P.bl=S.P.bl
 kept:Kept S.T S'.T
 wt:S'.T.wt.length<=S.T.wt.length
 sav:∀x∈S'.T.sav,x∈S.T.sav\/x.l=[]
 f:S'.f=S.f
 k:S'.k<=S.k
 vm:S'.P.D.vm=S.P.D.vm
def Y3y(S:WG)(n:Nat)(id last:Int)(w:World)(e:Ending)(w':World):Prop:=
 (∃c row' k',c≠0/\k'<=S.k/\e=.returned (X5 c)/\(Qq (X2o id last)=false\/6*S.P.bl<=S.P.L.length)/\Q8 (Q1 S) (Q1 ((S.space S.f k').Xg row' S.P.L)) w w')\/
 (∃S',e=.returned (X5 0)/\Qq (X2o id last)=true/\S.P.L.length<6*S.P.bl/\Q8 (Q1 S) (Q1 S') w w'/\Y6p S S' n id last)
set_option maxRecDepth 4000 in
set_option maxHeartbeats 8000000 in
theorem Q8b(w:World)(S:WG)(n:Nat)(x:TX)(last:Int)(h:Qh S w)(hn:n<8)(ht:S.T.tx.length<=1000000)(hlk:S.T.lk.length<=100000)(hwt:S.T.wt.length<=100000):
  Calls Tryz.prog 108 #[.pointer (some ⟨S.T.sb,0,none⟩),.int .i64 n,Gn x,.int .i64 last] w (Y3y S n x.1 last w):=by
 have HZ0:=Q0 h
 obtain⟨xi,xs,xl,xn⟩:=x
 have HT:=Q0 ht
 have HLK:=Q0 hlk
 have HWT:=Q0 hwt
 obtain⟨w1,hw1⟩:∃w1,(w.alloc (.cells #[.int .i64 xi,.int .i64 xs,.int .i64 xl,.int .i64 xn] 58)).alloc (.cells fz 41)=w1:=⟨_,rfl⟩
 have HB1:Sc (Below w.heap.size w w1):=⟨hw1▸Q3 (Q3 (Below.refl _ _) _) _⟩
 have H2:=Ym w (.cells #[.int .i64 xi,.int .i64 xs,.int .i64 xl,.int .i64 xn] 58) (.cells fz 41)
 rw[hw1]at H2
 have HZ:Sc (Qh S w1):=⟨(Q1 S).bel h HB1.o⟩
 have HBS:Sc (w1.heap.size=w.heap.size+2):=⟨by rw[<-hw1];simp⟩
 obtain⟨b6,hb6⟩:∃b,w.heap.size=b:=⟨_,rfl⟩
 have HB6:=Q0 hb6
 rw[hb6]at H2
 have H2:=Q0 H2
 have HBX:Sc (∀W,Kp (Q1 S).U w1 W->W.heap[b6]? =some (.cells #[.int .i64 xi,.int .i64 xs,.int .i64 xl,.int .i64 xn] 58 (0,0))/\W.heap[b6+1]? =some (.cells fz 41 (0,0))):=⟨fun W hk=>by
  have hno:∀q,b6<=q->¬(Q1 S).U q:=fun q hq hu=>by have:=(Q1 S).lt HZ0.o _ hu;have:=HB6.o;omega
  exact⟨hk.at H2.o.1 (hno _ (Nat.le_refl _)),hk.at H2.o.2 (hno _ (by omega))⟩⟩
 obtain⟨sb,hsb⟩:∃sb,S.T.sb=sb:=⟨_,rfl⟩
 have HSB:=Q0 hsb
 obtain⟨_,_,_,c5,_,_,c11,lt⟩:=HZ.o.sto.cells
 rw[hsb]at c5 c11 lt ⊢
 have CSP:=Q0 (E9 w1 S 1 HZ.o (by omega) (by omega))
 have hn8':(n:Int)<8:=by omega
 clear h ht hlk hwt hsb c5
 go_enter Tryz.func108,Tryz.ntmps108
 go_wp2_with fail
 try rw[hw1]
 try rw[hb6]
 clear hw1 hb6
 refine CSP.o.mono ?_
 rintro e w2 ⟨bo,k2,rfl,hk2,hl2⟩
 have HK2:=Q0 hk2
 obtain⟨S1,hS1⟩:∃S1,S.space S.f k2=S1:=⟨_,rfl⟩
 have HS1:=Q0 hS1
 rw[hS1]at hl2
 have HL2:=Q0 hl2
 have HSB1:Sc (S1.T=S.T/\S1.P=S.P):=⟨by rw[<-hS1];exact⟨rfl,rfl⟩⟩
 obtain⟨_,_,_,c5,_,_,_,lt2⟩:=hl2.1.sto.cells
 rw[HSB1.o.1,HSB.o]at c5 lt2
 obtain⟨lb,hlb⟩:∃lb,S.T.lb=lb:=⟨_,rfl⟩
 rw[hlb]at c5
 have CAP:Sc (∀X,Below w2.heap.size w2 X->Calls Tryz.prog 26 #[.pointer (some ⟨lb,0,none⟩),.agg #[.int .i64 6,.int .i64 xi,.int .i64 0,.int .i64 last,.int .i64 0,.int .i64 0,.bool false,.bool false,.int .i64 0,.int .i64 0]] X fun e w'=>∃a c:Int,e=.returned (.tuple #[.int .i64 a,.int .i64 c])/\Q0w S1 (X2o xi last) a c w2 w'):=⟨fun X hX=>by
  have:=O0 w2 X S1 (X2o xi last) HL2.o.1 hX
  rw[HSB1.o.1,hlb]at this
  exact this⟩
 obtain⟨x0,x1,x2,x3,_,_,_,_,lx⟩:=Qz (HBX.o w2 hl2.2.1).1
 have HQ:Sc (Below w2.heap.size w2 w2):=⟨Below.refl _ _⟩
 clear hl2 hS1 hk2 hlb c11 lt
 go_upto_region 2 with fail
 go_region_law
  (first
   |(go_simp;go_at_call 26;go_loud (refine(CAP.o _ (by first|with_reducible exact HQ.o|with_reducible exact Below.drew HQ.o)).mono ?_;rintro e w3 ⟨a3,e3,rfl,ha3⟩;have HA3:=Q0 ha3;clear ha3)))
 all_goals
  clear c5 lt2 x0 x1 x2 x3 lx
  rcases HA3.o with ⟨hgl,rfl,rfl,row3,hl3⟩|⟨hgl,rfl,hc0,row3,hl3⟩
  ·have HGL:=Q0 hgl
   obtain⟨S2,hS2⟩:∃S2,S1.Xg row3 (S1.P.L++[X2o xi last])=S2:=⟨_,rfl⟩
   have HS2:=Q0 hS2
   rw[hS2]at hl3
   have HL3:=Q0 (Part.trans HL2.o hl3)
   have HSB2:Sc (S2.T=S.T):=⟨by rw[<-hS2];exact HSB1.o.1⟩
   have CF:Sc (Calls Tryz.prog 147 #[.pointer (some ⟨sb,7,none⟩),.int .i64 n] w3 fun e w'=>e=.returned (.tuple #[])/\∃r',Q8 (Q1 S2) (Q1 (S2.Q4n r' (Of n S.T.lk))) w3 w'):=⟨by
    have:=X3i w3 S2 n HL3.o.1 (by rw[HSB2.o];exact HLK.o)
    rw[HSB2.o,HSB.o]at this
    exact this⟩
   have lt3:sb<w3.heap.size:=by have:=HL3.o.1.sto.cells.2.2.2.2.2.2.2;rw[HSB2.o,HSB.o]at this;exact this
   clear hl3 hS2 hgl
   go_wp2_with fail
   refine CF.o.mono ?_
   rintro e w4 ⟨rfl,kr4,hl4⟩
   obtain⟨S3,hS3⟩:∃S3,S2.Q4n kr4 (Of n S.T.lk)=S3:=⟨_,rfl⟩
   have HS3:=Q0 hS3
   rw[hS3]at hl4
   have HL4:=Q0 (Part.trans HL3.o hl4)
   have HSB3:Sc (S3.T.sb=sb/\S3.T.wt=S.T.wt/\S3.T.tx=S.T.tx/\S3.T.most=S.T.most/\S3.T.X1=S.T.X1/\S3.T.sav=S.T.sav):=⟨by rw[<-hS3,show(S2.Q4n kr4 (Of n S.T.lk)).T={S2.T with kr:=kr4,lk:=Of n S.T.lk} from rfl,HSB2.o];exact⟨HSB.o,rfl,rfl,rfl,rfl,rfl⟩⟩
   have CGO:Sc (Calls Tryz.prog 148 #[.pointer (some ⟨sb,8,none⟩),.int .i64 n] w4 fun e w'=>e=.returned (.tuple #[])/\∃r',Q8 (Q1 S3) (Q1 (S3.waits r' (Q2d n S.T.wt))) w4 w'):=⟨by
    have:=X3j w4 S3 n HL4.o.1 (by rw[HSB3.o.2.1];exact HWT.o)
    rw[HSB3.o.1,HSB3.o.2.1]at this
    exact this⟩
   have lt4:sb<w4.heap.size:=by have:=HL4.o.1.sto.cells.2.2.2.2.2.2.2;rw[HSB3.o.1]at this;exact this
   clear hl4 hS3 lt3
   go_wp2_with fail
   refine CGO.o.mono ?_
   rintro e w5 ⟨rfl,wr5,hl5⟩
   obtain⟨S4,hS4⟩:∃S4,S3.waits wr5 (Q2d n S.T.wt)=S4:=⟨_,rfl⟩
   have HS4:=Q0 hS4
   rw[hS4]at hl5
   have HL5:=Q0 (Part.trans HL4.o hl5)
   have HSB4:Sc (S4.T.sb=sb/\S4.T.tx=S.T.tx/\S4.T.most=S.T.most):=⟨by rw[<-hS4];exact⟨HSB3.o.1,HSB3.o.2.2.1,HSB3.o.2.2.2.1⟩⟩
   have CD:Sc (∀X,Below w5.heap.size w5 X->Calls Tryz.prog 84 #[.pointer (some ⟨sb,9,none⟩),.int .i64 xi] X fun e w'=>e=.returned (.bool (has S.T.tx xi))/\(∃tr',Q8 (Q1 S4) (Q1 (S4.trans tr' (X4 S.T.tx xi) S.T.most)) w5 w')/\w'.cell? ⟨b6,0,none⟩=some (.int .i64 xi)):=⟨fun X hX=>by
    have h1:=X3h X S4 xi ((Q1 S4).bel HL5.o.1 hX) (by rw[HSB4.o.2.1];exact HT.o)
    rw[HSB4.o.1,HSB4.o.2.1,HSB4.o.2.2]at h1
    refine h1.mono ?_
    rintro e w' ⟨he,tr',hl⟩
    have hl':=Part.from_ hl hX
    exact⟨he,⟨tr',hl'⟩,(Qz (HBX.o w' (Part.trans HL5.o hl').2.1).1).1⟩⟩
   obtain⟨x0,_,_,_,_,_,_,_,lx⟩:=Qz (HBX.o w5 HL5.o.2.1).1
   have lt5:sb<w5.heap.size:=by have:=HL5.o.1.sto.cells.2.2.2.2.2.2.2;rw[HSB4.o.1]at this;exact this
   have HSW:Sc (∀W,Below w5.heap.size w5 W->W.cell? ⟨b6,0,none⟩=some (.int .i64 xi)):=⟨fun W hW=>(hW.cell lx).trans x0⟩
   have HR:Sc (Below w5.heap.size w5 w5):=⟨Below.refl _ _⟩
   clear hl5 hS4 lt4
   go_wp2_with fail
   go_region_held3 (fun W=>W.cell? ⟨b6,0,none⟩=some (.int .i64 xi))
    (first|with_reducible exact HSW.o _ HR.o|with_reducible exact HSW.o _ (Below.drew HR.o)|with_reducible exact HSX.o)
    (first
     |(go_at_call 84;go_loud (refine(CD.o _ (by first|with_reducible exact HR.o|with_reducible exact Below.drew HR.o)).mono ?_;rintro e w6 ⟨rfl,hl6,hs6⟩;have HSX:=Q0 hs6;have HX6:=Q0 hl6;clear hl6 hs6)))
   obtain⟨tr6,hl6⟩:=HX6.o
   obtain⟨S5,hS5⟩:∃S5,S4.trans tr6 (X4 S.T.tx xi) S.T.most=S5:=⟨_,rfl⟩
   have HS5:=Q0 hS5
   rw[hS5]at hl6
   have HL6:=Q0 (Part.trans HL5.o hl6)
   have HSB5:Sc (S5.T.sb=sb/\S5.T.sav=S.T.sav):=⟨by rw[<-hS5];refine⟨HSB4.o.1,?_⟩;rw[<-HS4.o];exact HSB3.o.2.2.2.2.2⟩
   have f12:=HL6.o.1.sto.frozen (12+n)
   have f20:=HL6.o.1.sto.frozen (20+n)
   obtain⟨y,hy⟩:∃y,S5.T.sav[n]? =some y:=⟨_,List.getElem?_eq_getElem (by rw[HL6.o.1.sto.ns];exact hn)⟩
   have c20:=HL6.o.1.sto.Q5m hy
   obtain⟨z,hz⟩:∃z,S5.T.X1[n]? =some z:=⟨_,List.getElem?_eq_getElem (by rw[HL6.o.1.sto.nm];exact hn)⟩
   have c12:=HL6.o.1.sto.Q9o hz
   rw[HSB5.o.1]at c12 f12 f20 c20
   have l12:=World.block_lt_of_cell? _ _ c12
   have hne:¬(12+n=20+n):=by omega
   have hne2:¬(20+n=12+n):=by omega
   have HL7:=Q0 (Part.trans HL6.o (HL6.o.1.X7q hn 0))
   have HL8:=Q0 (Part.trans HL7.o (HL7.o.1.Y3g hn))
   have HW8:Sc (((w6.setCell ⟨sb,12+n,none⟩ (.int .i64 0)).setCell ⟨sb,20+n,none⟩ (.slice none 0 0))=((w6.setCell ⟨S5.T.sb,12+n,none⟩ (.int .i64 0)).setCell ⟨(S5.minus n 0).T.sb,20+n,none⟩ (.slice none 0 0))):=⟨by rw[show(S5.minus n 0).T.sb=S5.T.sb from rfl,HSB5.o.1]⟩
   clear hl6 hS5 hy hz x0 lx lt5
   go_upto_region 10 with fail
   rw[HW8.o]
   obtain⟨S6,hS6⟩:∃S6,(S5.minus n 0).saved n ⟨none,0,0,[]⟩=S6:=⟨_,rfl⟩
   have HS6:=Q0 hS6
   obtain⟨w8,hw8⟩:∃w8,((w6.setCell ⟨S5.T.sb,12+n,none⟩ (.int .i64 0)).setCell ⟨(S5.minus n 0).T.sb,20+n,none⟩ (.slice none 0 0))=w8:=⟨_,rfl⟩
   rw[hw8]
   rw[hS6,hw8]at HL8
   clear HW8 hS6 hw8 c12 c20 f12 f20 l12 hne hne2
   go_wp2_with fail
   refine(Vc _).mono ?_
   rintro e w9 ⟨rfl,hb9⟩
   have HL9:=Q0 (Part.Qs HL8.o hb9)
   obtain⟨z0,z1,z2,y0,y1,y2,lz⟩:=Q7 (HBX.o w9 HL9.o.2.1).2
   clear hb9
   go_wp2
   refine bodyPost_ret (v:=X5 0) (by simp[results,Tryz.results108,go_sem,z0,z1,z2]) rfl (.inr ⟨S6,rfl,HGL.o.1,by have:=HGL.o.2;rw[HSB1.o.2]at this;exact this,?_,?_⟩)
   ·refine Part.boxed (A:=Q1 S) HZ0.o HB1.o HL9.o ?_
    have e1:=HBS.o
    have e3:=HB6.o
    repeat (first|with_reducible exact Kp.Vd|with_reducible refine Kp.drew ?_|with_reducible refine Kp.put ?_ ⟨by omega,by omega⟩ _)
   ·rw[<-HS6.o,<-HS5.o,<-HS4.o,<-HS3.o,<-HS2.o,<-HS1.o]
    refine⟨rfl,rfl,rfl,Ys S.T,?_,fun x hx=> ?_,rfl,HK2.o,rfl⟩
    ·show(Q2d n S.T.wt).length<=S.T.wt.length
     unfold Q2d
     exact Nat.le_trans (List.length_filter_le _ _) (Zo _ _)
    ·rcases List.mem_or_eq_of_mem_set (show x∈S.T.sav.set n ⟨none,0,0,[]⟩ from hx) with hx|rfl
     ·exact .inl hx
     ·exact .inr rfl
  ·have HC0:=Q0 hc0
   have e0:(e3 !=0)=true:=by simp[hc0]
   have HGL:=Q0 hgl
   have HL3:=Q0 (Part.trans HL2.o hl3)
   clear hl3 hgl hc0
   go_wp2_with fail
   refine(Yb _ e3).mono ?_
   rintro e w4 ⟨rfl,hb4⟩
   have HL4:=Q0 (Part.Qs HL3.o hb4)
   obtain⟨z0,z1,z2,y0,y1,y2,lz⟩:=Q7 (HBX.o w4 HL4.o.2.1).2
   clear hb4
   go_wp2
   refine bodyPost_ret (v:=X5 e3) (by simp[results,Tryz.results108,go_sem,z0,z1,z2]) rfl (.inl ⟨e3,row3,k2,HC0.o,HK2.o,rfl,by have:=HGL.o;rw[HSB1.o.2]at this;exact this,?_⟩)
   have hE:S1.Xg row3 S1.P.L=(S.space S.f k2).Xg row3 S.P.L:=by rw[<-HS1.o];rfl
   rw[<-hE]
   refine Part.boxed (A:=Q1 S) HZ0.o HB1.o HL4.o ?_
   have e1:=HBS.o
   have e4:=HB6.o
   repeat (first|with_reducible exact Kp.Vd|with_reducible refine Kp.drew ?_|with_reducible refine Kp.put ?_ ⟨by omega,by omega⟩ _)
end Go.Proofs.YtoapihepdallbaaGreatDoor
