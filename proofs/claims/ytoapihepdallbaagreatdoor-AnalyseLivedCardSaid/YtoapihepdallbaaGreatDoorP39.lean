import Derived.Test.YtoapihepdallbaaGreatDoorP36
namespace Go.Proofs.YtoapihepdallbaaGreatDoor
open Go.RowKit
theorem Y3x.cnt{S S':WG}{k v:Nat}{r:Q9}{nx:Int}{l':List (Int×Int)}(hc:Cnt S k v)(h:Y3x S S' r nx l'):Cnt S' k v:=by
 have e1:S'.T.lk=S.T.lk:=congrArg Abs.lk h.abs
 have e2:S'.T.most=S.T.most:=congrArg Abs.most h.abs
 have e3:S'.T.tx=upd S.T.tx r.txn (fun y=>(y.1,(S.P.L.length:Int)+1,nx)):=congrArg Abs.tx h.abs
 exact⟨by rw[h.kept.Qu];exact hc.Qu,by rw[e1];exact hc.lk,by rw[h.wt];exact hc.wt,by rw[e3,Jv];exact hc.tx,by rw[e2];exact hc.most,by rw[h.vm];exact hc.vm,by rw[h.f,h.k];exact hc.sp,hc.small,by rw[h.sav];exact hc.sav,by rw[e1];exact hc.md⟩
theorem Q7z{w:World}{b:Nat}{u0 u1 u2 u3 u4 u5 u6 u7 u8 u9:Value}{t:TypeId}(h:w.heap[b]? =some (.cells #[u0,u1,u2,u3,u4,u5,u6,u7,u8,u9] t (0,0))):w.cell? ⟨b,0,none⟩=some u0/\w.cell? ⟨b,1,none⟩=some u1/\w.cell? ⟨b,2,none⟩=some u2/\w.cell? ⟨b,3,none⟩=some u3/\w.cell? ⟨b,4,none⟩=some u4/\w.cell? ⟨b,5,none⟩=some u5/\w.cell? ⟨b,6,none⟩=some u6/\w.cell? ⟨b,7,none⟩=some u7/\w.cell? ⟨b,8,none⟩=some u8/\w.cell? ⟨b,9,none⟩=some u9:=
 ⟨by simp[World.cell?,h],by simp[World.cell?,h],by simp[World.cell?,h],by simp[World.cell?,h],by simp[World.cell?,h],by simp[World.cell?,h],by simp[World.cell?,h],by simp[World.cell?,h],by simp[World.cell?,h],by simp[World.cell?,h]⟩
structure Q0y(S:WG)(n:Nat)(g:FrV)(id key old new:Int)(had hs:Bool):Prop where
 id0:id≠0
 X1:S.T.X1[n]? =some id
 mem:g∈S.P.O.fr
 at_:g.n=Zr key S.P.pages
 Y8b:0<=key/\key<=1048575
 lk:((n:Int),key,(2:Int))∈S.T.lk
 room:has g.l key=true\/g.l.length+(V2 S.P.pages g.n key g.l (V3 S.T.lk)).length<20
 old: -9223372036854775808<=old/\old<=9223372036854775807/\(had=false->old=0)
 new: -9223372036854775808<=new/\new<=9223372036854775807/\(hs=false->new=0)
 any:had=true\/hs=true
theorem Q0y.fit{S:WG}{w:World}{n:Nat}{g:FrV}{id key old new:Int}{had hs:Bool}(h:Q0y S n g id key old new had hs)(hw:Qh S w)(hok:Ok S.P.pages (6*S.P.bl) S.abs){r:Q9}(hr:r=⟨2,(got S.T.tx id).1,g.n,(got S.T.tx id).2.2.1,0,key,had,hs,old,new⟩)(hl:S.P.L.length<6*S.P.bl):
  (g.lsn<(S.P.L.length:Int)+1/\(r.has=true->(has g.l r.key=true\/g.l.length<20))/\OkP ((S.P.L.length:Int)+1) (Yj g.l r)/\G6 (Yj g.l r))/\Qq r=true/\r.txn=id/\Ok S.P.pages (6*S.P.bl) (S.abs.changed r id (Yj g.l r)):=by
 have hbl:=hw.X2.plain.blk
 have hpg:=hw.X2.plain.pg
 have hpv:S.abs.pv g.n=(g.lsn,g.l):=(hw.X2.plain.here g h.mem).2.2
 obtain⟨hv,_⟩:=hok.live.resolve_left (by show ¬(6*S.P.bl<=S.P.L.length);omega)
 obtain⟨x,hx,hxi⟩:=Qy.1 ((hv.X1 n id h.X1).resolve_left h.id0)
 have hg:=(Z3 (show Qd S.T.tx from hok.Yc.Je) hx).2.2
 rw[hxi]at hg
 have hi:(got S.T.tx id).1=id:=by rw[hg];exact hxi
 rw[hi]at hr
 obtain⟨h1,h2,h3,h4,h5,h6⟩:=hok.set (by omega) hl (by omega) h.X1 h.id0 h.at_ hpv h.Y8b h.lk h.room h.old h.new h.any hr
 exact⟨⟨h2,h3,h4,h5⟩,h1,by rw[hr],h6⟩
set_option maxRecDepth 4000 in
set_option maxHeartbeats 8000000 in
theorem X7w(w:World)(S:WG)(n k v:Nat)(g:FrV)(id key old new:Int)(had hs:Bool)(h:Qh S w)(hn:n<S.T.Qu)(hc:Cnt S k v)(hok:Ok S.P.pages (6*S.P.bl) S.abs)(hf:Q0y S n g id key old new had hs):
  Calls Tryz.prog 103 #[.pointer (some ⟨S.T.sb,0,none⟩),.int .i64 n,Zn g.lsn g.v,Yg ⟨0,0,g.n,0,0,key,had,hs,old,new⟩] w fun e w'=>(∃c,e=.returned (X5 c))/\∃S',Yn S S' k v w w':=by
 have HZ0:=Q0 h
 have HC:=Q0 hc
 have HOK:=Q0 hok
 have hn8:n<8:=by have:=hc.Qu;omega
 have hn8':(n:Int)<8:=by omega
 obtain⟨gn,glsn,gA,gs,gc,gl⟩:=g
 have HF:=Q0 hf
 obtain⟨w1,hw1⟩:∃w1,((w.alloc (.cells #[.int .i64 glsn,.slice gA gs gc] 197)).alloc (.cells #[.int .i64 0,.int .i64 0,.int .i64 gn,.int .i64 0,.int .i64 0,.int .i64 key,.bool had,.bool hs,.int .i64 old,.int .i64 new] 49)).alloc (.cells fz 41)=w1:=⟨_,rfl⟩
 have HB1:Sc (Below w.heap.size w w1):=⟨hw1▸Q3 (Q3 (Q3 (Below.refl _ _) _) _) _⟩
 have H3:=X7m w (.cells #[.int .i64 glsn,.slice gA gs gc] 197) (.cells #[.int .i64 0,.int .i64 0,.int .i64 gn,.int .i64 0,.int .i64 0,.int .i64 key,.bool had,.bool hs,.int .i64 old,.int .i64 new] 49) (.cells fz 41)
 rw[hw1]at H3
 have HZ:Sc (Qh S w1):=⟨(Q1 S).bel h HB1.o⟩
 have HBS:Sc (w1.heap.size=w.heap.size+3):=⟨by rw[<-hw1];simp⟩
 obtain⟨b5,hb5⟩:∃b,w.heap.size=b:=⟨_,rfl⟩
 have HB5:=Q0 hb5
 rw[hb5]at H3
 have H3:=Q0 H3
 have HNO:Sc (∀q,b5<=q->¬(Q1 S).U q):=⟨fun q hq hu=>by have:=(Q1 S).lt HZ0.o _ hu;have:=HB5.o;omega⟩
 have HBX:Sc (∀W,Kp (Q1 S).U w1 W->W.heap[b5]? =some (.cells #[.int .i64 glsn,.slice gA gs gc] 197 (0,0))/\W.heap[b5+1]? =some (.cells #[.int .i64 0,.int .i64 0,.int .i64 gn,.int .i64 0,.int .i64 0,.int .i64 key,.bool had,.bool hs,.int .i64 old,.int .i64 new] 49 (0,0))/\W.heap[b5+1+1]? =some (.cells fz 41 (0,0))):=⟨fun W hk=>⟨hk.at H3.o.1 (HNO.o _ (Nat.le_refl _)),hk.at H3.o.2.1 (HNO.o _ (by omega)),hk.at H3.o.2.2 (HNO.o _ (by omega))⟩⟩
 obtain⟨sb,hsb⟩:∃sb,S.T.sb=sb:=⟨_,rfl⟩
 have HSB:=Q0 hsb
 obtain⟨_,_,_,_,_,_,c11,lt⟩:=HZ.o.sto.cells
 rw[hsb]at c11 lt ⊢
 have CA:=Q0 (X3w w1 S 1 1 HZ.o (by omega) (by omega) (by omega) (by omega) (by have:=HZ.o.spa.k1;have:=hc.sp;have:=HZ.o.spa.f0;omega))
 clear h hn hc hok hf hsb
 go_enter Tryz.func103,Tryz.ntmps103
 go_wp2_with fail
 try rw[hw1]
 try rw[hb5]
 clear hw1 hb5
 refine CA.o.mono ?_
 rintro e w2 (⟨rfl,hl2⟩|⟨hf2,rfl,hl2⟩)
 ·have HL2:=Q0 hl2
  clear hl2 c11 lt
  go_wp2_with fail
  refine(Yb _ 109).mono ?_
  rintro e w3 ⟨rfl,hb3⟩
  have HL3:=Q0 (Part.Qs HL2.o hb3)
  obtain⟨z0,z1,z2,y0,y1,y2,lz⟩:=Q7 (HBX.o w3 HL3.o.2.1).2.2
  clear hb3
  go_wp2
  refine bodyPost_ret (v:=X5 109) (by simp[results,Tryz.results103,go_sem,z0,z1,z2]) rfl ⟨⟨109,rfl⟩,S,?_,Kept.refl _,HC.o,HOK.o⟩
  refine Part.boxed (A:=Q1 S) HZ0.o HB1.o HL3.o ?_
  have e1:=HBS.o
  have e3:=HB5.o
  repeat (first|with_reducible exact Kp.Vd|with_reducible refine Kp.drew ?_|with_reducible refine Kp.put ?_ ⟨by omega,by omega⟩ _)
 ·obtain⟨S1,hS1⟩:∃S1,S.space (S.f - 1 - 1) (S.k+1)=S1:=⟨_,rfl⟩
  rw[hS1]at hl2
  have HL2:=Q0 hl2
  have HT1:Sc (S1.T=S.T/\S1.P=S.P/\S1.abs=S.abs/\Cnt S1 k v):=⟨by rw[<-hS1];exact⟨rfl,rfl,rfl,HC.o.Qu,HC.o.lk,HC.o.wt,HC.o.tx,HC.o.most,HC.o.vm,by have:=HC.o.sp;show S.f - 1 - 1+(S.k+1)<=400;omega,HC.o.small,HC.o.sav,HC.o.md⟩⟩
  have c12:=hl2.1.sto.Q9o (T:=S1.T) (n:=n) (id:=id) (by rw[HT1.o.1];exact HF.o.X1)
  rw[show S1.T.sb=sb from by rw[HT1.o.1];exact HSB.o]at c12
  have lt2:=World.block_lt_of_cell? _ _ c12
  obtain⟨x,hx⟩:∃x,got S.T.tx id=x:=⟨_,rfl⟩
  have HX:=Q0 hx
  have CG:Sc (∀X,Below w2.heap.size w2 X->Calls Tryz.prog 82 #[.pointer (some ⟨sb,9,none⟩),.int .i64 id] X fun e w'=>e=.returned (.tuple #[Gn x,.bool (has S.T.tx id)])/\Below w2.heap.size w2 w'/\Below X.heap.size X w'):=⟨fun X hX=>by
   have:=Gv X S1 id ((Q1 _).bel HL2.o.1 hX) (by have:=HT1.o.2.2.2.tx;have:=HC.o.small;omega)
   rw[HT1.o.1,hx]at this
   rw[show S.T.sb=sb from HSB.o]at this
   exact this.mono fun e w' ⟨he,hb⟩=>⟨he,Q5 hX hb,hb⟩⟩
  have HSW:Sc (∀W,Below w2.heap.size w2 W->W.cell? ⟨sb,12+n,none⟩=some (.int .i64 id)):=⟨fun W hW=>(hW.cell lt2).trans c12⟩
  have HQ:Sc (Below w2.heap.size w2 w2):=⟨Below.refl _ _⟩
  have HH:=Q0 (heap_alloc_new w2 (.cells #[.int .i64 0,.int .i64 0,.int .i64 0,.int .i64 0] 58))
  have a12:(w2.alloc (.cells #[.int .i64 0,.int .i64 0,.int .i64 0,.int .i64 0] 58)).cell? ⟨sb,12+n,none⟩=some (.int .i64 id):=HSW.o _ (Q3 HQ.o _)
  have HBS2:Sc (w1.heap.size<=w2.heap.size):=⟨hl2.2.1.size⟩
  clear hf2 hl2 hS1 hx c11 lt
  go_upto_region 4 with fail
  go_cut [10,11] from 21 to 33 (fun s10 s11 wx=>∃b,s10=.pointer (some ⟨b,0,none⟩)/\w2.heap.size<=b/\Sc (wx.heap[b]? =some (.cells #[.int .i64 x.1,.int .i64 x.2.1,.int .i64 x.2.2.1,.int .i64 x.2.2.2] 58 (0,0)))/\Sc (Below w2.heap.size w2 wx))
  case first=>
   go_region_law
    (first
     |(go_simp;go_at_call 82;go_loud (refine(CG.o _ (by first|with_reducible exact HQ.o|with_reducible exact Below.drew HQ.o|with_reducible exact Q3 HQ.o _|with_reducible exact Below.drew (Q3 HQ.o _))).mono ?_;rintro e wt ⟨rfl,hq,hq2⟩;have HQ:=Q0 hq;(try have HN:=Q0 (up hq2 HH.o));(try obtain⟨n0,n1,n2,n3,m0,m1,m2,m3,ln⟩:=Qz (up hq2 HH.o));clear hq hq2)))
   all_goals
    go_wp2_with fail
    go_meet
    case rel=>
     first
      |exact⟨_,rfl,HQ.o.size,⟨heap_alloc_new _ _⟩,⟨Q3 HQ.o _⟩⟩
      |exact⟨_,rfl,Nat.le_refl _,⟨Ou HN.o⟩,⟨(((HQ.o.setCell (Nat.le_refl _) _).setCell (Nat.le_refl _) _).setCell (Nat.le_refl _) _).setCell (Nat.le_refl _) _⟩⟩
      |exact⟨_,rfl,HQ.o.size,⟨heap_alloc_new _ _⟩,⟨Below.drew (Q3 HQ.o _)⟩⟩
  case rest=>
   obtain⟨b10,rfl,hb10,HN10,HB3⟩:=hcut
   obtain⟨w3,rfl⟩:∃w3,w3=wc:=⟨_,rfl⟩
   have HL3:=Q0 (Part.Qs HL2.o HB3.o)
   obtain⟨x5,x6,x8⟩:=HBX.o w3 HL3.o.2.1
   have HN6:=Q0 x6
   obtain⟨r0,r1,r2,r3,r4,r5,r6,r7,r8,r9⟩:=Q7z x6
   obtain⟨f0,f1,f2,f3,f4,f5,f6,f7,f8,f9,lr⟩:=X1t x6
   obtain⟨x0,x1,x2,x3,_,_,_,_,lx⟩:=Qz HN10.o
   have hne:¬b5+1=b10:=by have:=HBS.o;have:=HB5.o;have:=HBS2.o;omega
   have hne2:¬b10=b5+1:=fun he=>hne he.symm
   clear a12 c12 lt2 x5 x6 x8
   go_upto_region 8 with fail
   obtain⟨w4,hw4⟩:∃w4,((w3.setCell ⟨b5+1,0,none⟩ (.int .i64 2)).setCell ⟨b5+1,1,none⟩ (.int .i64 x.1)).setCell ⟨b5+1,3,none⟩ (.int .i64 x.2.2.1)=w4:=⟨_,rfl⟩
   have HN4:Sc (w4.heap[b5+1]? =some (.cells #[.int .i64 2,.int .i64 x.1,.int .i64 gn,.int .i64 x.2.2.1,.int .i64 0,.int .i64 key,.bool had,.bool hs,.int .i64 old,.int .i64 new] 49 (0,0))):=⟨by
    have h0:(w3.setCell ⟨b5+1,0,none⟩ (.int .i64 2)).heap[b5+1]? =some (.cells #[.int .i64 2,.int .i64 0,.int .i64 gn,.int .i64 0,.int .i64 0,.int .i64 key,.bool had,.bool hs,.int .i64 old,.int .i64 new] 49 (0,0)):=by rw[Qn HN6.o 0 _];rfl
    have h1:((w3.setCell ⟨b5+1,0,none⟩ (.int .i64 2)).setCell ⟨b5+1,1,none⟩ (.int .i64 x.1)).heap[b5+1]? =some (.cells #[.int .i64 2,.int .i64 x.1,.int .i64 gn,.int .i64 0,.int .i64 0,.int .i64 key,.bool had,.bool hs,.int .i64 old,.int .i64 new] 49 (0,0)):=by rw[Qn h0 1 _];rfl
    rw[<-hw4,Qn h1 3 _]
    rfl⟩
   have HK4:Sc (Kp (fun q=>q=b5+1) w3 w4):=⟨by rw[<-hw4];exact(((Kp.Vd (S:=fun q=>q=b5+1)).put (b:=b5+1) rfl _).put (b:=b5+1) rfl _).put (b:=b5+1) rfl _⟩
   rw[hw4]
   have HNU:Sc (∀q,b5<=q->q<w1.heap.size->¬(Q1 S1).U q):=⟨fun q h1 h2 hu=>(HL2.o.2.2 _ hu).elim (HNO.o q h1) (fun hn=>by omega)⟩
   have HZ4:Sc (Qh S1 w4):=⟨(Q1 S1).kp HL3.o.1 HK4.o (fun q hq he=>HNU.o q (by omega) (by have:=HBS.o;have:=HB5.o;omega) hq)⟩
   have HL4:Sc (Q8 (Q1 S) (Q1 S1) w w4):=⟨Part.aside (Part.from_ HL3.o HB1.o) HK4.o (by have:=HB5.o;omega) (HNU.o _ (by omega) (by have:=HBS.o;have:=HB5.o;omega))⟩
   have HB7:Sc (b5+1+1<w4.heap.size):=⟨Q6 (HK4.o.at (HBX.o w3 HL3.o.2.1).2.2 (by omega))⟩
   clear hw4 r0 r1 r2 r3 r4 r5 r6 r7 r8 r9 f0 f1 f2 f3 f4 f5 f6 f7 f8 f9 lr x0 x1 x2 x3 lx hne hne2
   have HN5:Sc (w4.heap[b5]? =some (.cells #[.int .i64 glsn,.slice gA gs gc] 197 (0,0))):=⟨HK4.o.at (HBX.o w3 HL3.o.2.1).1 (by omega)⟩
   have HN7:Sc (w4.heap[b5+1+1]? =some (.cells fz 41 (0,0))):=⟨HK4.o.at (HBX.o w3 HL3.o.2.1).2.2 (by omega)⟩
   obtain⟨r,hr⟩:∃r:Q9,r=⟨2,x.1,gn,x.2.2.1,0,key,had,hs,old,new⟩:=⟨_,rfl⟩
   have HR:=Q0 hr
   have HF1:Sc (Q0y S1 n ⟨gn,glsn,gA,gs,gc,gl⟩ id key old new had hs):=⟨by
    have hh:=HF.o
    exact⟨hh.id0,by rw[HT1.o.1];exact hh.X1,by rw[HT1.o.2.1];exact hh.mem,by rw[HT1.o.2.1];exact hh.at_,hh.Y8b,by rw[HT1.o.1];exact hh.lk,by rw[HT1.o.2.1,HT1.o.1];exact hh.room,hh.old,hh.new,hh.any⟩⟩
   have HFIT:Sc (S1.P.L.length<6*S1.P.bl->(glsn<(S1.P.L.length:Int)+1/\(r.has=true->(has gl r.key=true\/gl.length<20))/\OkP ((S1.P.L.length:Int)+1) (Yj gl r)/\G6 (Yj gl r))/\Qq r=true/\r.txn=id/\Ok S1.P.pages (6*S1.P.bl) (S1.abs.changed r id (Yj gl r))):=⟨fun hl=>HF1.o.fit HZ4.o (by rw[HT1.o.2.1,HT1.o.2.2.1];exact HOK.o) (by rw[HT1.o.1,HX.o];exact hr) hl⟩
   have CDN:Sc (Calls Tryz.prog 143 #[.pointer (some ⟨sb,0,none⟩),.agg #[.int .i64 glsn,.slice gA gs gc],.agg #[.int .i64 2,.int .i64 x.1,.int .i64 gn,.int .i64 x.2.2.1,.int .i64 0,.int .i64 key,.bool had,.bool hs,.int .i64 old,.int .i64 new],.int .i64 0] w4 (Q3q S1 r ((S1.P.L.length:Int)+1) (Yj gl r) w4)):=⟨by
    have:=X1l w4 S1 ⟨gn,glsn,gA,gs,gc,gl⟩ r 0 ((S1.P.L.length:Int)+1) HZ4.o (by rw[HT1.o.2.1];exact HF.o.mem) (by rw[hr]) (.inl (by rw[hr])) (by rw[if_pos (by rw[hr])]) (by have:=HT1.o.2.2.2.tx;have:=HC.o.small;omega) (fun hh=>(HFIT.o hh).1)
    rw[show S1.T.sb=sb from by rw[HT1.o.1];exact HSB.o]at this
    rw[hr]at this ⊢
    exact this⟩
   clear hr
   obtain⟨p0,p1⟩:=Qf HN5.o
   obtain⟨r0,r1,r2,r3,r4,r5,r6,r7,r8,r9⟩:=Q7z HN4.o
   go_wp2_with fail
   refine CDN.o.mono ?_
   rintro e w5 (⟨ce,row',hce,rfl,hgf,hl5⟩|⟨S2,rfl,hgd,hlen,hl5,hdid⟩)
   ·have HL5:=Q0 (Part.trans HL4.o hl5)
    have HU5:Sc (¬(Q1 (S1.Xg row' S1.P.L)).U (b5+1+1)):=⟨fun hu=>(hl5.2.2 _ hu).elim (HNU.o _ (by omega) (by have:=HBS.o;have:=HB5.o;omega)) (fun hn=>by have:=HB7.o;omega)⟩
    have HN8:=Q0 (hl5.2.1.at HN7.o (HNU.o _ (by omega) (by have:=HBS.o;have:=HB5.o;omega)))
    obtain⟨z0,z1,z2,y0,y1,y2,lz⟩:=Q7 HN8.o
    clear hce hgf hl5 p0 p1 r0 r1 r2 r3 r4 r5 r6 r7 r8 r9
    go_wp2
    refine bodyPost_ret (v:=X5 ce) (by simp[results,Tryz.results103,go_sem,z0,z1,z2]) rfl ⟨⟨ce,rfl⟩,S1.Xg row' S1.P.L,?_,?_,?_,?_⟩
    ·have e3:=HB5.o
     have hu:=HU5.o
     repeat (first|with_reducible exact HL5.o|with_reducible refine Part.drew ?_|with_reducible refine Part.Y9 ?_ (by omega) hu)
    ·show Kept S.T S1.T
     rw[HT1.o.1];exact Kept.refl _
    ·exact HT1.o.2.2.2.Xg (f:=S1.f) (k':=S1.k) HT1.o.2.2.2.sp row' S1.P.L
    ·show Ok S1.P.pages (6*S1.P.bl) S1.abs
     rw[HT1.o.2.1,HT1.o.2.2.1];exact HOK.o
   ·have HL5:=Q0 (Part.trans HL4.o hl5)
    have HU5:Sc (¬(Q1 S2).U (b5+1+1)):=⟨fun hu=>(hl5.2.2 _ hu).elim (HNU.o _ (by omega) (by have:=HBS.o;have:=HB5.o;omega)) (fun hn=>by have:=HB7.o;omega)⟩
    have HN8:=Q0 (hl5.2.1.at HN7.o (HNU.o _ (by omega) (by have:=HBS.o;have:=HB5.o;omega)))
    obtain⟨z0,z1,z2,y0,y1,y2,lz⟩:=Q7 HN8.o
    have HOK2:Sc (Cnt S2 k v/\Kept S.T S2.T/\Ok S2.P.pages (6*S2.P.bl) S2.abs):=⟨by
     refine⟨hdid.cnt HT1.o.2.2.2,by have:=hdid.kept;rw[HT1.o.1]at this;exact this,?_⟩
     have hh:=HFIT.o hlen
     have hA:S2.abs=S1.abs.changed r id (Yj gl r):=by
      rw[hdid.abs,hh.2.2.1]
      unfold Abs.changed Vg
      rw[if_pos (by rw[HR.o])]
      rfl
     rw[hA,hdid.pages,hdid.bl]
     exact hh.2.2.2⟩
    clear hgd hlen hl5 hdid p0 p1 r0 r1 r2 r3 r4 r5 r6 r7 r8 r9
    go_wp2
    refine bodyPost_ret (v:=X5 0) (by simp[results,Tryz.results103,go_sem,z0,z1,z2]) rfl ⟨⟨0,rfl⟩,S2,?_,HOK2.o.2.1,HOK2.o.1,HOK2.o.2.2⟩
    have e3:=HB5.o
    have hu:=HU5.o
    repeat (first|with_reducible exact HL5.o|with_reducible refine Part.drew ?_|with_reducible refine Part.Y9 ?_ (by omega) hu)
theorem X4j{pages page key:Int}{l:List (Int×Int)}{K:List Int}{i:Nat}{x:Int}(hx:K[i]? =some x):(V2 pages page key l (K.take (i+1))).length=(V2 pages page key l (K.take i)).length+(if has l x=false/\x≠key/\Zr x pages=page then 1 else 0):=by
 have:K.take (i+1)=K.take i++[x]:=by rw[List.take_add_one,hx];rfl
 unfold V2
 rw[this,List.filter_append,List.length_append]
 congr 1
 by_cases hp:has l x=false/\x≠key/\Zr x pages=page
 ·rw[if_pos hp,List.filter_cons,if_pos (by simp[hp.1,hp.2.1,hp.2.2])]
  rfl
 ·rw[if_neg hp,List.filter_cons,if_neg (by intro hh;simp at hh;exact hp ⟨hh.1.1,hh.1.2,hh.2⟩)]
  rfl
set_option maxRecDepth 4000 in
set_option maxHeartbeats 8000000 in
theorem Y1u(w:World)(S:WG)(g:FrV)(page key:Int)(h:Qh S w)(hg:g∈S.P.O.fr)(hlk:S.T.lk.length<=100000):
  Calls Tryz.prog 102 #[.pointer (some ⟨S.T.sb,0,none⟩),Zn g.lsn g.v,.int .i64 page,.int .i64 key] w fun e w'=>e=.returned (.bool (decide (20<=g.l.length+(V2 S.P.pages page key g.l (V3 S.T.lk)).length)))/\Below w.heap.size w w':=by
 obtain⟨gn,glsn,gA,gs,gc,gl⟩:=g
 have HZ0:=Q0 h
 have HO0:Sc (Own Qj 2 227 0 w (.slice gA gs gc) gl):=⟨h.X2.own.Q1e ⟨gn,glsn,gA,gs,gc,gl⟩ hg⟩
 have hgs:gl.length=gs:=by obtain⟨_,_,he,_,_⟩:=HO0.o.slice;injection he with _ h2 _;exact h2.symm
 have HOKG:Sc (OkP glsn gl):=⟨by
  have h1:=(h.X2.plain.here _ hg).2.2
  have h2:=(h.X2.plain.ok gn).1
  rw[h1]at h2
  exact h2⟩
 have hgs2:gs<=20:=by have:=HOKG.o.2.2.1;omega
 have HGS:=Q0 hgs
 obtain⟨sb,hsb⟩:∃sb,S.T.sb=sb:=⟨_,rfl⟩
 obtain⟨pages,hpages⟩:∃pages:Int,S.P.pages=pages:=⟨_,rfl⟩
 have HPG:Sc (1<=pages/\pages<=1000):=⟨by have:=h.X2.plain.pg;omega⟩
 obtain⟨w1,hw1⟩:∃w1,w.alloc (.cells #[.int .i64 glsn,.slice gA gs gc] 197)=w1:=⟨_,rfl⟩
 have HB1:Sc (Below w.heap.size w w1):=⟨hw1▸Q3 (Below.refl _ _) _⟩
 have HN1:Sc (w1.heap[w.heap.size]? =some (.cells #[.int .i64 glsn,.slice gA gs gc] 197 (0,0))):=⟨by rw[<-hw1];exact heap_alloc_new _ _⟩
 obtain⟨b5,hb5⟩:∃b,w.heap.size=b:=⟨_,rfl⟩
 rw[hb5]at HN1
 have HZ:Sc (Qh S w1):=⟨(Q1 S).bel h HB1.o⟩
 have CH:=X3k w1 S HZ.o hlk
 rw[hsb]at CH
 have CH:=Q0 CH
 obtain⟨c0,_,_,_,_,_,_,lt⟩:=HZ.o.sto.cells
 rw[hsb]at c0 lt ⊢
 rw[show((S.T.pages:Nat):Int)=pages from by rw[<-hpages,<-HZ.o.pg]]at c0
 have HC0:=Q0 (And.intro c0 lt)
 rw[hpages]
 have HKL:Sc ((V3 S.T.lk).length<=100000):=⟨by have:=Em (fun h:Int×Int×Int=>decide (h.2.2=2)) (fun h=>h.2.1) S.T.lk;unfold V3;omega⟩
 obtain⟨K,hK⟩:∃K,V3 S.T.lk=K:=⟨_,rfl⟩
 rw[hK]at CH HKL ⊢
 obtain⟨p0,p1⟩:=Qf HN1.o
 clear h hg hlk hsb hpages hK c0 lt hgs
 go_enter Tryz.func102,Tryz.ntmps102
 go_wp2_with fail
 try rw[hw1]
 try rw[hb5]
 clear hw1 hb5
 refine CH.o.mono ?_
 rintro e w2 ⟨v2,rfl,ho2,hb2⟩
 obtain⟨A2,cap2,rfl,hnc2,hcm2⟩:=ho2.slice
 have HO2:=Q0 ho2
 have HB2:=Q0 hb2
 have HB12:=Q0 (Q5 HB1.o hb2)
 obtain⟨m,hm⟩:∃m,K.length=m:=⟨_,rfl⟩
 rw[hm]at HO2 HKL ⊢
 have HM:=Q0 hm
 have hm2:=HKL.o
 clear ho2 hb2 hnc2 hm p0 p1
 go_wp2_with fail
 go_loopg [9,11] m (fun kx s9 s11 wr=>∃i j:Nat,s11=.int .i64 i/\s9=.int .i64 j/\i<=m/\m - i<=kx/\j<=20+i/\Sc (j=gs+(V2 pages page key gl (K.take i)).length)/\Sc (Below w2.heap.size w2 wr))
 case atStart=>exact⟨0,gs,rfl,rfl,Nat.zero_le _,by omega,by omega,⟨by simp[V2]⟩,⟨Below.refl _ _⟩⟩
 case round=>
  obtain⟨i,j,rfl,rfl,him,hik,hj,HJ,HBR⟩:=hrel
  by_cases hlt:i<m
  ·obtain⟨x,hx⟩:∃x,K[i]? =some x:=⟨_,List.getElem?_eq_getElem (by rw[HM.o];exact hlt)⟩
   obtain⟨g2,c2,he,_,_,_,_⟩:=HO2.o.form (by rw[HM.o];omega)
   injection he with hA hn2 hC
   subst hA
   have HOR:=Q0 (HO2.o.below HBR.o)
   have d0:=HOR.o.Uw hx
   have ld:=(HOR.o.lt g2 rfl).2
   have HXX:=Q0 hx
   have HN5:=Q0 (up HBR.o (up HB2.o HN1.o))
   obtain⟨p0,p1⟩:=Qf HN5.o
   obtain⟨bx,hbx⟩:∃bx,has gl x=bx:=⟨_,rfl⟩
   obtain⟨vx,hvx⟩:∃vx,(look gl x).getD 0=vx:=⟨_,rfl⟩
   have HBXX:=Q0 hbx
   have CB:∀X:Y2 wr,Calls Tryz.prog 100 #[.agg #[.int .i64 glsn,.slice gA gs gc],.int .i64 x] X.world fun e w'=>e=.returned (.tuple #[.int .i64 vx,.bool bx])/\Below X.world.heap.size X.world w':=fun X=>by
    have:=Vk X.world 0 glsn (.slice gA gs gc) gl x ((((HO0.o.below HB1.o).below HB2.o).below HBR.o).below X.below) HOKG.o.2.2.2.2.rising (by rw[HGS.o];omega)
    rw[hbx,hvx]at this
    exact this
   have k5:∀X:Y2 wr,X.world.cell? ⟨b5,0,none⟩=some (.int .i64 glsn):=fun X=>X.cell p0
   have k6:∀X:Y2 wr,X.world.cell? ⟨b5,1,none⟩=some (.slice gA gs gc):=fun X=>X.cell p1
   have kx:∀X:Y2 wr,X.world.cell? ⟨g2,i,none⟩=some (.int .i64 x):=fun X=>X.cell d0
   have HTK:=Q0 (X4j (pages:=pages) (page:=page) (key:=key) (l:=gl) hx)
   have hil:(i:Int)<m:=by omega
   clear hx hbx hvx hn2 hC p0 p1 d0 ld
   go_upto_region 6 with fail
   refine Xn (by kernel_rfl) (by kernel_rfl) ?_
   repeat (go_big_quiet_step ((go_at_call 100;exact Y2.call _ (CB _))))
   refine wpQuiet_nil ?_
   intro w3 hw3
   have HB3:=Q0 (Y2.Ju hw3)
   have HB23:=Q0 (Q5 HBR.o HB3.o)
   clear hw3 k5 k6 kx CB
   go_upto_region 7 with fail
   have d0:=(HOR.o.below HB3.o).Uw HXX.o
   have kx:∀X:Y2 w3,X.world.cell? ⟨g2,i,none⟩=some (.int .i64 x):=fun X=>X.cell d0
   have lt2:sb<w2.heap.size:=by have:=HB2.o.size;have:=HC0.o.2;omega
   have c0:=(HB23.o.cell lt2).trans ((HB2.o.cell HC0.o.2).trans HC0.o.1)
   have k0:∀X:Y2 w3,X.world.cell? ⟨sb,0,none⟩=some (.int .i64 pages):=fun X=>X.cell c0
   obtain⟨px,hpx⟩:∃px,Zr x pages=px:=⟨_,rfl⟩
   have HPX:=Q0 hpx
   have CP:∀X:Y2 w3,Calls Tryz.prog 101 #[.int .i64 x,.int .i64 pages] X.world fun e w'=>e=.returned (.int .i64 px)/\w'=X.world:=fun X=>(Dg X.world x pages HPG.o.1 HPG.o.2).mono fun e w' ⟨he,hw⟩=>⟨by rw[he,hpx],hw.symm⟩
   clear hpx c0 d0 lt2
   have hcase:(bx=true/\(V2 pages page key gl (K.take (i+1))).length=(V2 pages page key gl (K.take i)).length)\/(bx=false/\(x !=key)=false/\(V2 pages page key gl (K.take (i+1))).length=(V2 pages page key gl (K.take i)).length)\/(bx=false/\(x !=key)=true/\(px==page)=false/\(V2 pages page key gl (K.take (i+1))).length=(V2 pages page key gl (K.take i)).length)\/(bx=false/\(x !=key)=true/\(px==page)=true/\(V2 pages page key gl (K.take (i+1))).length=(V2 pages page key gl (K.take i)).length+1):=by
    have h1:=HTK.o
    rw[HBXX.o,HPX.o]at h1
    cases bx with
    |true=>exact .inl ⟨rfl,by rw[h1,if_neg (by simp),Nat.add_zero]⟩
    |false=>
     by_cases hk:x=key
     ·exact .inr (.inl ⟨rfl,by simp[hk],by rw[h1,if_neg (fun hh=>hh.2.1 hk),Nat.add_zero]⟩)
     ·by_cases hp:px=page
      ·exact .inr (.inr (.inr ⟨rfl,by simp[hk],by simp[hp],by rw[h1,if_pos ⟨rfl,hk,hp⟩]⟩))
      ·exact .inr (.inr (.inl ⟨rfl,by simp[hk],by simp[hp],by rw[h1,if_neg (fun hh=>hp hh.2.2),Nat.add_zero]⟩))
   rcases hcase with ⟨rfl,hN⟩|⟨rfl,e1,hN⟩|⟨rfl,e1,e2,hN⟩|⟨rfl,e1,e2,hN⟩
   all_goals
    have HN:=Q0 hN
    clear hN
    refine Xn (by kernel_rfl) (by kernel_rfl) ?_
    repeat (go_big_quiet_step ((go_at_call 101;exact Y2.Q1a _ (CP _))))
    refine wpQuiet_nil ?_
    intro w4 hw4
    have HB4:=Q0 (Q5 HB23.o (Y2.Ju hw4))
    clear hw4
    go_wp2_with fail
    go_roundg (m - (i+1))
    case measure=>omega
    case rel=>
     first
      |exact⟨i+1,j,by go_num,rfl,by omega,Nat.le_refl _,by omega,⟨by rw[HN.o];exact HJ.o⟩,HB4⟩
      |exact⟨i+1,j+1,by go_num,by go_num,by omega,Nat.le_refl _,by omega,⟨by rw[HN.o];have:=HJ.o;omega⟩,HB4⟩
  ·obtain rfl:i=m:=by omega
   have HEQ:Sc (decide ((20:Int)<=(j:Int))=decide (20<=gl.length+(V2 pages page key gl K).length)):=⟨by
    have h1:=HJ.o
    rw[<-HM.o,List.take_length]at h1
    rw[HGS.o,<-h1]
    by_cases h20:20<=j
    ·rw[decide_eq_true h20,decide_eq_true (by omega)]
    ·rw[decide_eq_false h20,decide_eq_false (by omega)]⟩
   have HEND:=Q0 (Q5 (Q5 HB1.o HB2.o) HBR.o)
   go_wp2_with fail
   go_ret
   exact⟨by rw[<-HEQ.o];rfl,HEND.o⟩
theorem G6.look{l:List (Int×Int)}(h:G6 l)(k:Int): -9223372036854775808<=(look l k).getD 0/\(look l k).getD 0<=9223372036854775807/\(has l k=false->(look l k).getD 0=0):=by
 unfold Go.Proofs.YtoapihepdallbaaGreatDoor.look
 split
 ·rename_i hh
  refine⟨?_,?_,fun h0=>by rw[hh]at h0;cases h0⟩<;>
  ·cases hx:l[pos l k]? with
   |none=>simp
   |some x=>have:=h x (List.mem_of_getElem? hx);simp;omega
 ·exact⟨by simp,by simp,fun _=>rfl⟩
set_option maxRecDepth 4000 in
set_option maxHeartbeats 8000000 in
theorem X6o(w:World)(S:WG)(n k v hint:Nat)(key val:Int)(h:Qh S w)(hn:n<S.T.Qu)(hc:Cnt S k v)(hk:k<200)(hv:v<=500000)(hok:Ok S.P.pages (6*S.P.bl) S.abs)(hk0:0<=key)(hkey:key<1048576)(hh:hint<=1000000)(hval: -9223372036854775808<=val/\val<=9223372036854775807):
  Calls Tryz.prog 58 #[.pointer (some ⟨S.T.sb,0,none⟩),.int .i64 n,.int .i64 key,.int .i64 val,.int .i64 hint] w fun e w'=>(∃x b c,e=.returned (.tuple #[.int .i64 x,.bool b,X5 c]))/\∃S',Yn S S' (k+1) (v+401) w w':=by
 have HZ0:=Q0 h
 have HOK:=Q0 hok
 have HH:=Q0 (And.intro hn (And.intro hv (And.intro hh (And.intro hk0 (And.intro hkey hval)))))
 obtain⟨w1,hw1⟩:∃w1,w.alloc (.cells fz 41)=w1:=⟨_,rfl⟩
 have HB1:Sc (Below w.heap.size w w1):=⟨hw1▸Q3 (Below.refl _ _) _⟩
 have HBS:Sc (w1.heap.size=w.heap.size+1):=⟨by rw[<-hw1];simp⟩
 have HN1:Sc (w1.heap[w.heap.size]? =some (.cells fz 41 (0,0))):=⟨by rw[<-hw1];exact heap_alloc_new _ _⟩
 have HZ:Sc (Qh S w1):=⟨(Q1 S).bel h HB1.o⟩
 obtain⟨b12,hb12⟩:∃b,w.heap.size=b:=⟨_,rfl⟩
 have HB12:=Q0 hb12
 rw[hb12]at HN1
 have HNO:Sc (¬(Q1 S).U b12):=⟨fun hu=>by have:=(Q1 S).lt HZ0.o _ hu;have:=HB12.o;omega⟩
 have CT:=Q5r w1 S n hint k v key 2 HZ.o hn hc hk (by omega) (.inr rfl) hk0 hkey hh
 obtain⟨sb,hsb⟩:∃sb,S.T.sb=sb:=⟨_,rfl⟩
 have HSB:=Q0 hsb
 rw[hsb]at CT ⊢
 have CT:=Q0 CT
 clear h hn hc hk hv hok hk0 hkey hh hval hsb
 go_enter Tryz.func58,Tryz.ntmps58
 go_wp2_with fail
 try rw[hw1]
 try rw[hb12]
 clear hw1 hb12
 refine CT.o.mono ?_
 rintro e w2 ⟨S1,ht,hc1,hres⟩
 have HT:=Q0 ht
 have HC1:=Q0 hc1
 have HL2:Sc (Q8 (Q1 S) (Q1 S1) w w2):=⟨Part.from_ ht.leaves HB1.o⟩
 have HN2:Sc (w2.heap[b12]? =some (.cells fz 41 (0,0))):=⟨ht.leaves.2.1.at HN1.o HNO.o⟩
 have HU2:Sc (¬(Q1 S1).U b12):=⟨fun hu=>(ht.leaves.2.2 _ hu).elim HNO.o (fun hn=>by have:=HBS.o;have:=HB12.o;omega)⟩
 have HSB1:Sc (S1.T.sb=sb/\n<S1.T.Qu):=⟨by rw[ht.kept.sb];exact HSB.o,by rw[ht.kept.Qu];exact HH.o.1⟩
 clear ht hc1
 rcases hres with ⟨c,hc0,rfl⟩|⟨⟨gn,glsn,gA,gs,gc,gl⟩,id,rfl,hg,hgn,hid,hmn,hlk⟩
 ·have HC0:=Q0 hc0
  clear hc0
  go_upto_region 2 with fail
  obtain⟨w3,hw3⟩:∃w3,(w2.alloc (.cells #[.int .i64 0,.slice none 0 0] 197)).alloc (.cells #[.int .i64 c,.bool false,.int .i64 0] 41)=w3:=⟨_,rfl⟩
  obtain⟨b11,hb11⟩:∃b11,w2.heap.size=b11:=⟨_,rfl⟩
  have H3:=Ym w2 (.cells #[.int .i64 0,.slice none 0 0] 197) (.cells #[.int .i64 c,.bool false,.int .i64 0] 41)
  have HB3:Sc (Below w2.heap.size w2 w3):=⟨by rw[<-hw3];exact Q3 (Q3 (Below.refl _ _) _) _⟩
  have HL3:=Q0 (Part.Qs HL2.o HB3.o)
  rw[hw3,hb11]at H3
  have H3:=Q0 H3
  rw[hw3]
  try rw[hb11]
  clear hw3 hb11
  obtain⟨p0,p1,p2,p3,p4,p5,lp⟩:=Q7 H3.o.2
  go_wp2_with fail
  refine(Z0 w3 c HC0.o).mono ?_
  rintro e w4 ⟨rfl,hb4⟩
  have HL4:=Q0 (Part.Qs HL3.o hb4)
  have HN4:=Q0 (up (Q5 HB3.o hb4) HN2.o)
  have HN3:=Q0 (up hb4 H3.o.2)
  have CGV:=Uc w4 S1 n (k+1) (v+1) hint c HL4.o.1 HSB1.o.2 HC1.o (by have:=HH.o.2.1;omega) (HT.o.ok HOK.o) HH.o.2.2.1
  rw[HSB1.o.1]at CGV
  have CGV:=Q0 CGV
  clear hb4 p0 p1 p2 p3 p4 p5 lp
  obtain⟨p0,p1,p2,p3,p4,p5,lp⟩:=Q7 HN3.o
  go_wp2_with fail
  refine CGV.o.mono ?_
  rintro e w5 ⟨⟨c5,rfl⟩,S2,hd⟩
  have HD:=Q0 hd
  have HL5:=Q0 (Part.trans HL4.o hd.leaves)
  have HN5:=Q0 (hd.leaves.2.1.at HN4.o HU2.o)
  have HU5:Sc (¬(Q1 S2).U b12):=⟨fun hu=>(hd.leaves.2.2 _ hu).elim HU2.o (fun hn=>by have:=Q6 HN4.o;omega)⟩
  clear hd p0 p1 p2 p3 p4 p5 lp
  obtain⟨z0,z1,z2,y0,y1,y2,lz⟩:=Q7 HN5.o
  go_wp2
  refine bodyPost_ret (v:=.tuple #[.int .i64 0,.bool false,X5 c5]) (by simp[results,Tryz.results58,go_sem,z0,z1,z2]) rfl ⟨⟨0,false,c5,rfl⟩,S2,?_,HT.o.kept.Qs HD.o.kept,HD.o.cnt.upv (by omega),HD.o.ok⟩
  have e1:=HB12.o
  have hu:=HU5.o
  repeat (first|with_reducible exact HL5.o|with_reducible refine Part.drew ?_|with_reducible refine Part.Y9 ?_ (by omega) hu)
 ·obtain⟨px,hpx⟩:∃px,Zr key S.P.pages=px:=⟨_,rfl⟩
  rw[hpx]at hgn
  have hgn':gn=px:=hgn
  have HG:=Q0 (And.intro hg (And.intro hgn' (And.intro hid (And.intro hmn (And.intro (hlk trivial) hpx)))))
  clear hg hgn hgn' hid hmn hlk hpx
  go_upto_region 2 with fail
  obtain⟨w3,hw3⟩:∃w3,(w2.alloc (.cells #[.int .i64 glsn,.slice gA gs gc] 197)).alloc (.cells #[.int .i64 0,.bool false,.int .i64 0] 41)=w3:=⟨_,rfl⟩
  obtain⟨b13,hb13⟩:∃b13,w2.heap.size=b13:=⟨_,rfl⟩
  have H3:=Ym w2 (.cells #[.int .i64 glsn,.slice gA gs gc] 197) (.cells #[.int .i64 0,.bool false,.int .i64 0] 41)
  have HB3:Sc (Below w2.heap.size w2 w3):=⟨by rw[<-hw3];exact Q3 (Q3 (Below.refl _ _) _) _⟩
  have HL3:=Q0 (Part.Qs HL2.o HB3.o)
  have HU3:Sc (∀q,w2.heap.size<=q->¬(Q1 S1).U q):=⟨fun q hq hu=>by have:=(Q1 S1).lt HL2.o.1 _ hu;omega⟩
  have HSZ:Sc (w2.heap.size=b13/\w.heap.size<=w2.heap.size):=⟨hb13,HL2.o.2.1.size⟩
  rw[hw3,hb13]at H3
  have H3:=Q0 H3
  rw[hw3]
  try rw[hb13]
  clear hw3 hb13
  obtain⟨p0,p1,p2,p3,p4,p5,lp⟩:=Q7 H3.o.2
  go_wp2_with fail
  refine(Yf w3).mono ?_
  rintro e w4 ⟨rfl,hb4⟩
  have HL4:=Q0 (Part.Qs HL3.o hb4)
  have HB24:=Q0 (Q5 HB3.o hb4)
  have HB34:=Q0 hb4
  have HN4:=Q0 (up hb4 H3.o.1)
  have HGE:Sc (Own Qj 2 227 0 w4 (.slice gA gs gc) gl):=⟨HL4.o.1.X2.own.Q1e ⟨gn,glsn,gA,gs,gc,gl⟩ HG.o.1⟩
  have HOKG:Sc (OkP glsn gl/\G6 gl):=⟨by
   have h1:=(HL4.o.1.X2.plain.here _ HG.o.1).2.2
   have h2:=HL4.o.1.X2.plain.ok gn
   rw[h1]at h2
   exact⟨h2.1,h2.2⟩⟩
  have HPG:Sc (S1.P.pages=S.P.pages/\1<=S.P.pages/\S.P.pages<=32):=⟨HT.o.same.pages,by have:=HZ0.o.X2.plain.pg;omega⟩
  have CPL:Sc (Calls Tryz.prog 101 #[.int .i64 key,.int .i64 (S.P.pages:Nat)] w4 fun e w'=>e=.returned (.int .i64 px)/\w4=w'):=⟨by rw[<-HG.o.2.2.2.2.2];exact Dg w4 key (S.P.pages:Nat) (by have:=HPG.o.2;omega) (by have:=HPG.o.2;omega)⟩
  obtain⟨c0,_,_,_,_,_,_,lt⟩:=HL4.o.1.sto.cells
  rw[HSB1.o.1]at c0 lt
  rw[show S1.T.pages=S.P.pages from by rw[<-HPG.o.1];exact HL4.o.1.pg]at c0
  obtain⟨xv,hxv⟩:∃xv,(look gl key).getD 0=xv:=⟨_,rfl⟩
  obtain⟨xb,hxb⟩:∃xb,has gl key=xb:=⟨_,rfl⟩
  have HXV:=Q0 (And.intro hxv hxb)
  have CF:=Vk w4 0 glsn (.slice gA gs gc) gl key HGE.o HOKG.o.1.2.2.2.2.rising (by have:=HOKG.o.1.2.2.1;omega)
  rw[hxv,hxb]at CF
  have CF:=Q0 CF
  clear hb4 p0 p1 p2 p3 p4 p5 lp hxv hxb
  go_wp2_with fail
  refine CPL.o.mono ?_
  rintro e w5 ⟨rfl,rfl⟩
  obtain⟨g0,g1⟩:=Qf HN4.o
  go_wp2_with fail
  refine CF.o.mono ?_
  rintro e w5 ⟨rfl,hb5⟩
  have HL5:=Q0 (Part.Qs HL4.o hb5)
  have HB25:=Q0 (Q5 HB24.o hb5)
  have HB35:=Q0 (Q5 HB34.o hb5)
  clear hb5 g0 g1 c0 lt
  obtain⟨qf,hqf⟩:∃qf,decide (20<=gl.length+(V2 (S.P.pages:Nat) px key gl (V3 S1.T.lk)).length)=qf:=⟨_,rfl⟩
  have HQF:=Q0 hqf
  have CFU:=Y1u w5 S1 ⟨gn,glsn,gA,gs,gc,gl⟩ px key HL5.o.1 HG.o.1 (by have:=HC1.o.lk;have:=HC1.o.small;omega)
  rw[HSB1.o.1,HPG.o.1,hqf]at CFU
  have CFU:=Q0 CFU
  clear hqf
  have hcase:(xb=false/\qf=true)\/(xb=true)\/(xb=false/\qf=false):=by
   cases xb<;>cases qf<;>simp
  rcases hcase with ⟨rfl,rfl⟩|hfit
  ·obtain⟨g0,g1⟩:=Qf (up HB35.o H3.o.1)
   go_wp2_with fail
   refine CFU.o.mono ?_
   rintro e w6 ⟨rfl,hb6⟩
   have HL6:=Q0 (Part.Qs HL5.o hb6)
   have HB26:=Q0 (Q5 HB25.o hb6)
   clear hb6 g0 g1
   go_wp2_with fail
   refine(Yb _ 110).mono ?_
   rintro e w7 ⟨rfl,hb7⟩
   have HL7:=Q0 (Part.Qs HL6.o hb7)
   obtain⟨z0,z1,z2,y0,y1,y2,lz⟩:=Q7 (up (Q5 HB26.o hb7) HN2.o)
   clear hb7
   go_wp2
   refine bodyPost_ret (v:=.tuple #[.int .i64 0,.bool false,X5 110]) (by simp[results,Tryz.results58,go_sem,z0,z1,z2]) rfl ⟨⟨0,false,110,rfl⟩,S1,?_,HT.o.kept,HC1.o.upv (by omega),HT.o.ok HOK.o⟩
   have e1:=HB12.o
   have hu:=HU2.o
   repeat (first|with_reducible exact HL7.o|with_reducible refine Part.drew ?_|with_reducible refine Part.Y9 ?_ (by omega) hu)
  ·have HFIT:Sc (Q0y S1 n ⟨gn,glsn,gA,gs,gc,gl⟩ id key xv val xb true):=⟨by
    have hg:=HG.o
    refine⟨hg.2.2.1,by rw[HT.o.X1];exact hg.2.2.2.1,hg.1,?_,by have:=HH.o.2.2.2;omega,hg.2.2.2.2.1,?_,?_,⟨HH.o.2.2.2.2.2.1,HH.o.2.2.2.2.2.2,fun h=>by cases h⟩,.inr rfl⟩
    ·show gn=Zr key S1.P.pages
     rw[hg.2.1,HPG.o.1];exact hg.2.2.2.2.2.symm
    ·show has gl key=true\/gl.length+(V2 S1.P.pages gn key gl (V3 S1.T.lk)).length<20
     rcases hfit with h1|⟨_,h1⟩
     ·exact .inl (HXV.o.2.trans h1)
     ·right
      have h2:=HQF.o
      rw[h1]at h2
      rw[hg.2.1,HPG.o.1]
      have:=of_decide_eq_false h2
      omega
    ·rw[<-HXV.o.1,<-HXV.o.2];exact HOKG.o.2.look key⟩
   have CSE:Sc (∀X,Below w5.heap.size w5 X->Calls Tryz.prog 103 #[.pointer (some ⟨sb,0,none⟩),.int .i64 n,.agg #[.int .i64 glsn,.slice gA gs gc],.agg #[.int .i64 0,.int .i64 0,.int .i64 px,.int .i64 0,.int .i64 0,.int .i64 key,.bool xb,.bool true,.int .i64 xv,.int .i64 val]] X fun e w'=>(∃c,e=.returned (X5 c))/\∃S',Yn S1 S' (k+1) (v+1) X w'):=⟨fun X hX=>by
    have:=X7w X S1 n (k+1) (v+1) ⟨gn,glsn,gA,gs,gc,gl⟩ id key xv val xb true ((Q1 S1).bel HL5.o.1 hX) HSB1.o.2 HC1.o (HT.o.ok HOK.o) HFIT.o
    rw[HSB1.o.1]at this
    rw[show gn=px from HG.o.2.1]at this
    exact this⟩
   rcases hfit with rfl|⟨rfl,rfl⟩
   ·have HB56:Sc (Below w5.heap.size w5 w5):=⟨Below.refl _ _⟩
    go_upto_region 8 with fail
    have HL6:=Q0 (Part.Qs HL5.o HB56.o)
    have HN13:=Q0 (up (Q5 HB35.o HB56.o) H3.o.1)
    have HN14:=Q0 (up (Q5 HB35.o HB56.o) H3.o.2)
    have HN12:=Q0 (up (Q5 HB25.o HB56.o) HN2.o)
    have CS:=Q0 (CSE.o _ HB56.o)
    obtain⟨g0,g1⟩:=Qf HN13.o
    obtain⟨p0,p1,p2,p3,p4,p5,lp⟩:=Q7 HN14.o
    go_wp2_with fail
    refine CS.o.mono ?_
    rintro e w7 ⟨⟨cs,rfl⟩,S2,hd⟩
    have HD:=Q0 hd
    have HL7:=Q0 (Part.trans HL6.o hd.leaves)
    have HN14c:=Q0 (hd.leaves.2.1.at HN14.o (HU3.o _ (by have:=HSZ.o.1;omega)))
    have HN12c:=Q0 (hd.leaves.2.1.at HN12.o HU2.o)
    have HU7:Sc (¬(Q1 S2).U b12/\¬(Q1 S2).U (b13+1)/\¬b12=b13+1):=⟨fun hu=>(hd.leaves.2.2 _ hu).elim HU2.o (fun hn=>by have:=Q6 HN12.o;omega),fun hu=>(hd.leaves.2.2 _ hu).elim (HU3.o _ (by have:=HSZ.o.1;omega)) (fun hn=>by have:=Q6 HN14.o;omega),by have:=HSZ.o.1;have:=Q6 HN2.o;omega⟩
    have HSB2:Sc (S2.T.sb=sb/\n<S2.T.Qu):=⟨by rw[hd.kept.sb];exact HSB1.o.1,by rw[hd.kept.Qu];exact HSB1.o.2⟩
    clear hd g0 g1 p0 p1 p2 p3 p4 p5 lp
    obtain⟨p0,p1,p2,p3,p4,p5,lp⟩:=Q7 HN14c.o
    go_upto_region 9 with fail
    obtain⟨w8,hw8⟩:∃w8,((w7.setCell ⟨b13+1,0,none⟩ (.int .i64 cs)).setCell ⟨b13+1,1,none⟩ (.bool false)).setCell ⟨b13+1,2,none⟩ (.int .i64 0)=w8:=⟨_,rfl⟩
    have HK8:Sc (Kp (fun q=>q=b13+1) w7 w8):=⟨by rw[<-hw8];exact De⟩
    have HL8:=Q0 (Part.aside HL7.o HK8.o (by have:=HSZ.o;omega) HU7.o.2.1)
    have HN14d:Sc (w8.heap[b13+1]? =some (.cells #[.int .i64 cs,.bool false,.int .i64 0] 41 (0,0))):=⟨by rw[<-hw8];exact J6 HN14c.o⟩
    have HN12d:=Q0 (HK8.o.at HN12c.o HU7.o.2.2)
    rw[hw8]
    clear hw8 p0 p1 p2 p3 p4 p5 lp
    obtain⟨p0,p1,p2,p3,p4,p5,lp⟩:=Q7 HN14d.o
    by_cases hcs:cs=0
    ·subst hcs
     go_wp2_with fail
     refine(Yf w8).mono ?_
     rintro e w9 ⟨rfl,hb9⟩
     have HL9:=Q0 (Part.Qs HL8.o hb9)
     have hn14:=up hb9 HN14d.o
     have hn12:=up hb9 HN12d.o
     clear p0 p1 p2 p3 p4 p5 lp hb9
     obtain⟨p0,p1,p2,p3,p4,p5,lp⟩:=Q7 hn14
     obtain⟨z0,z1,z2,y0,y1,y2,lz⟩:=Q7 hn12
     clear hn14 hn12
     go_upto_region 11 with fail
     go_region
     all_goals
      go_wp2
      refine bodyPost_ret (v:=.tuple #[.int .i64 xv,.bool true,X5 0]) (by simp[results,Tryz.results58,go_sem,z0,z1,z2]) rfl ⟨⟨xv,true,0,rfl⟩,S2,?_,HT.o.kept.Qs HD.o.kept,HD.o.cnt.upv (by omega),HD.o.ok⟩
      have e1:=HB12.o
      have hu:=HU7.o.1
      repeat (first|with_reducible exact HL9.o|with_reducible refine Part.drew ?_|with_reducible refine Part.Y9 ?_ (by omega) hu)
    ·have HCS:=Q0 hcs
     clear hcs
     go_wp2_with fail
     refine(Z0 w8 cs HCS.o).mono ?_
     rintro e w9 ⟨rfl,hb9⟩
     have HL9:=Q0 (Part.Qs HL8.o hb9)
     have hn14:=up hb9 HN14d.o
     have HN12e:=Q0 (up hb9 HN12d.o)
     have CGV:=Uc w9 S2 n (k+1) (v+1) hint cs HL9.o.1 HSB2.o.2 HD.o.cnt (by have:=HH.o.2.1;omega) HD.o.ok HH.o.2.2.1
     rw[HSB2.o.1]at CGV
     have CGV:=Q0 CGV
     clear p0 p1 p2 p3 p4 p5 lp hb9
     obtain⟨p0,p1,p2,p3,p4,p5,lp⟩:=Q7 hn14
     clear hn14
     go_wp2_with fail
     refine CGV.o.mono ?_
     rintro e w10 ⟨⟨c10,rfl⟩,S3,hd⟩
     have HD3:=Q0 hd
     have HL10:=Q0 (Part.trans HL9.o hd.leaves)
     have HN12f:=Q0 (hd.leaves.2.1.at HN12e.o HU7.o.1)
     have HU10:Sc (¬(Q1 S3).U b12):=⟨fun hu=>(hd.leaves.2.2 _ hu).elim HU7.o.1 (fun hn=>by have:=Q6 HN12e.o;omega)⟩
     clear hd p0 p1 p2 p3 p4 p5 lp
     obtain⟨z0,z1,z2,y0,y1,y2,lz⟩:=Q7 HN12f.o
     go_wp2
     refine bodyPost_ret (v:=.tuple #[.int .i64 0,.bool false,X5 c10]) (by simp[results,Tryz.results58,go_sem,z0,z1,z2]) rfl ⟨⟨0,false,c10,rfl⟩,S3,?_,(HT.o.kept.Qs HD.o.kept).Qs HD3.o.kept,HD3.o.cnt.upv (by omega),HD3.o.ok⟩
     have e1:=HB12.o
     have hu:=HU10.o
     repeat (first|with_reducible exact HL10.o|with_reducible refine Part.drew ?_|with_reducible refine Part.Y9 ?_ (by omega) hu)
   ·obtain⟨g0,g1⟩:=Qf (up HB35.o H3.o.1)
    go_wp2_with fail
    refine CFU.o.mono ?_
    rintro e w6 ⟨rfl,hb6⟩
    have HB56:=Q0 hb6
    clear hb6 g0 g1
    go_upto_region 8 with fail
    have HL6:=Q0 (Part.Qs HL5.o HB56.o)
    have HN13:=Q0 (up (Q5 HB35.o HB56.o) H3.o.1)
    have HN14:=Q0 (up (Q5 HB35.o HB56.o) H3.o.2)
    have HN12:=Q0 (up (Q5 HB25.o HB56.o) HN2.o)
    have CS:=Q0 (CSE.o _ HB56.o)
    obtain⟨g0,g1⟩:=Qf HN13.o
    obtain⟨p0,p1,p2,p3,p4,p5,lp⟩:=Q7 HN14.o
    go_wp2_with fail
    refine CS.o.mono ?_
    rintro e w7 ⟨⟨cs,rfl⟩,S2,hd⟩
    have HD:=Q0 hd
    have HL7:=Q0 (Part.trans HL6.o hd.leaves)
    have HN14c:=Q0 (hd.leaves.2.1.at HN14.o (HU3.o _ (by have:=HSZ.o.1;omega)))
    have HN12c:=Q0 (hd.leaves.2.1.at HN12.o HU2.o)
    have HU7:Sc (¬(Q1 S2).U b12/\¬(Q1 S2).U (b13+1)/\¬b12=b13+1):=⟨fun hu=>(hd.leaves.2.2 _ hu).elim HU2.o (fun hn=>by have:=Q6 HN12.o;omega),fun hu=>(hd.leaves.2.2 _ hu).elim (HU3.o _ (by have:=HSZ.o.1;omega)) (fun hn=>by have:=Q6 HN14.o;omega),by have:=HSZ.o.1;have:=Q6 HN2.o;omega⟩
    have HSB2:Sc (S2.T.sb=sb/\n<S2.T.Qu):=⟨by rw[hd.kept.sb];exact HSB1.o.1,by rw[hd.kept.Qu];exact HSB1.o.2⟩
    clear hd g0 g1 p0 p1 p2 p3 p4 p5 lp
    obtain⟨p0,p1,p2,p3,p4,p5,lp⟩:=Q7 HN14c.o
    go_upto_region 9 with fail
    obtain⟨w8,hw8⟩:∃w8,((w7.setCell ⟨b13+1,0,none⟩ (.int .i64 cs)).setCell ⟨b13+1,1,none⟩ (.bool false)).setCell ⟨b13+1,2,none⟩ (.int .i64 0)=w8:=⟨_,rfl⟩
    have HK8:Sc (Kp (fun q=>q=b13+1) w7 w8):=⟨by rw[<-hw8];exact De⟩
    have HL8:=Q0 (Part.aside HL7.o HK8.o (by have:=HSZ.o;omega) HU7.o.2.1)
    have HN14d:Sc (w8.heap[b13+1]? =some (.cells #[.int .i64 cs,.bool false,.int .i64 0] 41 (0,0))):=⟨by rw[<-hw8];exact J6 HN14c.o⟩
    have HN12d:=Q0 (HK8.o.at HN12c.o HU7.o.2.2)
    rw[hw8]
    clear hw8 p0 p1 p2 p3 p4 p5 lp
    obtain⟨p0,p1,p2,p3,p4,p5,lp⟩:=Q7 HN14d.o
    by_cases hcs:cs=0
    ·subst hcs
     go_wp2_with fail
     refine(Yf w8).mono ?_
     rintro e w9 ⟨rfl,hb9⟩
     have HL9:=Q0 (Part.Qs HL8.o hb9)
     have hn14:=up hb9 HN14d.o
     have hn12:=up hb9 HN12d.o
     clear p0 p1 p2 p3 p4 p5 lp hb9
     obtain⟨p0,p1,p2,p3,p4,p5,lp⟩:=Q7 hn14
     obtain⟨z0,z1,z2,y0,y1,y2,lz⟩:=Q7 hn12
     clear hn14 hn12
     go_upto_region 11 with fail
     go_region
     all_goals
      go_wp2
      refine bodyPost_ret (v:=.tuple #[.int .i64 xv,.bool false,X5 0]) (by simp[results,Tryz.results58,go_sem,z0,z1,z2]) rfl ⟨⟨xv,false,0,rfl⟩,S2,?_,HT.o.kept.Qs HD.o.kept,HD.o.cnt.upv (by omega),HD.o.ok⟩
      have e1:=HB12.o
      have hu:=HU7.o.1
      repeat (first|with_reducible exact HL9.o|with_reducible refine Part.drew ?_|with_reducible refine Part.Y9 ?_ (by omega) hu)
    ·have HCS:=Q0 hcs
     clear hcs
     go_wp2_with fail
     refine(Z0 w8 cs HCS.o).mono ?_
     rintro e w9 ⟨rfl,hb9⟩
     have HL9:=Q0 (Part.Qs HL8.o hb9)
     have hn14:=up hb9 HN14d.o
     have HN12e:=Q0 (up hb9 HN12d.o)
     have CGV:=Uc w9 S2 n (k+1) (v+1) hint cs HL9.o.1 HSB2.o.2 HD.o.cnt (by have:=HH.o.2.1;omega) HD.o.ok HH.o.2.2.1
     rw[HSB2.o.1]at CGV
     have CGV:=Q0 CGV
     clear p0 p1 p2 p3 p4 p5 lp hb9
     obtain⟨p0,p1,p2,p3,p4,p5,lp⟩:=Q7 hn14
     clear hn14
     go_wp2_with fail
     refine CGV.o.mono ?_
     rintro e w10 ⟨⟨c10,rfl⟩,S3,hd⟩
     have HD3:=Q0 hd
     have HL10:=Q0 (Part.trans HL9.o hd.leaves)
     have HN12f:=Q0 (hd.leaves.2.1.at HN12e.o HU7.o.1)
     have HU10:Sc (¬(Q1 S3).U b12):=⟨fun hu=>(hd.leaves.2.2 _ hu).elim HU7.o.1 (fun hn=>by have:=Q6 HN12e.o;omega)⟩
     clear hd p0 p1 p2 p3 p4 p5 lp
     obtain⟨z0,z1,z2,y0,y1,y2,lz⟩:=Q7 HN12f.o
     go_wp2
     refine bodyPost_ret (v:=.tuple #[.int .i64 0,.bool false,X5 c10]) (by simp[results,Tryz.results58,go_sem,z0,z1,z2]) rfl ⟨⟨0,false,c10,rfl⟩,S3,?_,(HT.o.kept.Qs HD.o.kept).Qs HD3.o.kept,HD3.o.cnt.upv (by omega),HD3.o.ok⟩
     have e1:=HB12.o
     have hu:=HU10.o
     repeat (first|with_reducible exact HL10.o|with_reducible refine Part.drew ?_|with_reducible refine Part.Y9 ?_ (by omega) hu)
end Go.Proofs.YtoapihepdallbaaGreatDoor
