import Derived.Test.YtoapihepdallbaaGreatDoorP33
namespace Go.Proofs.YtoapihepdallbaaGreatDoor
open Go.RowKit
section
set_option maxHeartbeats 1000000 in
theorem Z0(w:World)(c:Int)(hc:c≠0):Calls Tryz.prog 10 #[X5 c] w fun e w'=>e=.returned (.bool true)/\Below w.heap.size w w':=by
 have e0:(c !=0)=true:=by simp[hc]
 go_enter Tryz.func10,Tryz.ntmps10
 go_wp2
 go_ret
 exact⟨rfl,Q3 (Below.refl _ _) _⟩
theorem OkS.idle{pages:Int}{cap:Nat}{A:Abs}{id s:Int}(h:OkS pages cap id s A){lk':List (Int×Int×Int)}{tab':List (Int×Int)}(hl:∀s k,(s,k,(2:Int))∈A.lk->(s,k,(2:Int))∈lk')(ht:∀y∈tab',y∈A.tab):OkS pages cap id s {A with lk:=lk',tab:=tab'}:=
 ⟨⟨h.Yc.wf,h.Yc.txs,h.Yc.Je,h.Yc.ids,h.Yc.most,h.Yc.pgs,fun y hy=>h.Yc.tab y (ht y hy),h.Yc.Q3x,h.Yc.fin⟩,h.live.imp_right fun⟨h1,h2⟩=>⟨h1.idle hl,h2⟩⟩
theorem Gy.Y7o{pages:Int}{A:Abs}(h:Gy pages A){id q:Int}(hq:(got A.tx id).2.2.2=q)(h0:q≠0):has A.tx id=true/\∃r m,Qx A.L 0 q=some r/\r.kind=2/\r.txn=id/\0<=r.prev/\Yp A.L r.prev m/\V7 A.L id m/\m<q/\1<=r.page/\r.page<=pages:=by
 cases hh:has A.tx id with
 |false=>unfold got at hq;rw[if_neg (by rw[hh];simp)]at hq;exact absurd hq.symm h0
 |true=>
  obtain⟨x,hx,he⟩:=Qy.1 hh
  have hg:=(Z3 h.Je hx).2.2
  rw[he]at hg
  rw[hg]at hq
  have hs:=h.txs x hx
  rw[hq,he]at hs
  obtain⟨r,hr,hk,ht⟩:=hs.resolve_left h0
  obtain⟨p0,_,m,hn,hm,hlt⟩:=X2f h.wf hr hk
  have hw:=h.wf q r hr
  exact⟨rfl,r,m,hr,hk,ht,p0,hn,by rw[<-ht];exact hm,hlt,(Q8m hw.Jo hk).2.1,hw.page (.inl hk)⟩
theorem Kept.Qs{A B C:Xm}(h:Kept A B)(k:Kept B C):Kept A C:=
 ⟨k.sb.trans h.sb,k.pb.trans h.pb,k.db.trans h.db,k.lb.trans h.lb,k.spb.trans h.spb,k.pages.trans h.pages,k.bl.trans h.bl,k.Xf.trans h.Xf,k.Qu.trans h.Qu⟩
structure Up(S S':WG)(vx:Nat)(id s:Int):Prop where
 kept:Kept S.T S'.T
 lk:S'.T.lk=S.T.lk
 X1:S'.T.X1=S.T.X1
 wt:S'.T.wt=S.T.wt
 sav:S'.T.sav=S.T.sav
 most:S'.T.most=S.T.most
 ck:S'.T.ck=S.T.ck
 pages:S'.P.pages=S.P.pages
 bl:S'.P.bl=S.P.bl
 tx:S'.T.tx.length=S.T.tx.length
 sp:S'.f+S'.k<=S.f+S.k
 vm:S'.P.D.vm<=vx
 ok:OkS S.P.pages (6*S.P.bl) id s S'.abs
namespace Up
variable{S S1 S2:WG}{vx:Nat}{id s:Int}
theorem start(hv:S.P.D.vm<=vx)(h:OkS S.P.pages (6*S.P.bl) id s S.abs):Up S S vx id s:=⟨⟨rfl,rfl,rfl,rfl,rfl,rfl,rfl,rfl,rfl⟩,rfl,rfl,rfl,rfl,rfl,rfl,rfl,rfl,rfl,Int.le_refl _,hv,h⟩
theorem Y8m(h:Up S S1 vx id s){P':X9}(hc:Calm S1.P P' 1):Up S {S1 with P:=P'} (vx+1) id s:=by
 refine⟨h.kept,h.lk,h.X1,h.wt,h.sav,h.most,h.ck,hc.same.pages.trans h.pages,hc.same.bl.trans h.bl,h.tx,h.sp,Nat.le_trans hc.vm (Nat.succ_le_succ h.vm),?_⟩
 have he:({S1 with P:=P'}:WG).abs={S1.abs with lk:=S1.T.lk,tab:=P'.O.tab}:=by
  unfold WG.abs
  show(⟨P'.L,_,_,_,_,P'.pv,_,_⟩:Abs)=_
  rw[hc.same.L,hc.same.pv]
 rw[he]
 exact h.ok.idle (fun _ _ h=>h) hc.tab
theorem Y8j(h:Up S S1 vx id s){k':Int}(hk:k'<=S1.k):Up S (S1.space S1.f k') vx id s:=
 ⟨h.kept,h.lk,h.X1,h.wt,h.sav,h.most,h.ck,h.pages,h.bl,h.tx,by have:=h.sp;show S1.f+k'<=_;omega,h.vm,h.ok⟩
theorem Xg(h:Up S S1 vx id s)(row:Option Nat):Up S (S1.Xg row S1.P.L) vx id s:=
 ⟨h.kept,h.lk,h.X1,h.wt,h.sav,h.most,h.ck,h.pages,h.bl,h.tx,h.sp,h.vm,h.ok⟩
theorem did(h:Up S S1 vx id s){r:Q9}{nx:Int}{l':List (Int×Int)}(hd:Y3x S1 S2 r nx l')(ht:r.txn=id)(hn:nx=Vg S1.abs r)(ho:OkS S.P.pages (6*S.P.bl) id s (S1.abs.changed r id l')):Up S S2 vx id s:=by
 have hA:S2.abs=S1.abs.changed r id l':=by rw[hd.abs,ht,hn];rfl
 have e1:S2.T.lk=S1.T.lk:=congrArg Abs.lk hA
 have e2:S2.T.X1=S1.T.X1:=congrArg Abs.X1 hA
 have e3:S2.T.most=S1.T.most:=congrArg Abs.most hA
 have e4:S2.T.ck=S1.T.ck:=congrArg Abs.ck hA
 have e5:S2.T.tx.length=S1.T.tx.length:=by
  have he:S2.T.tx=(S1.abs.changed r id l').tx:=congrArg Abs.tx hA
  rw[he]
  exact Jv S1.T.tx id (fun y=>(y.1,(S1.P.L.length:Int)+1,Vg S1.abs r))
 exact⟨h.kept.Qs hd.kept,e1.trans h.lk,e2.trans h.X1,hd.wt.trans h.wt,hd.sav.trans h.sav,e3.trans h.most,e4.trans h.ck,hd.pages.trans h.pages,hd.bl.trans h.bl,e5.trans h.tx,by rw[hd.f,hd.k];exact h.sp,by rw[hd.vm];exact h.vm,by rw[hA];exact ho⟩
theorem up(h:Up S S1 vx id s){vy:Nat}(hv:vx<=vy):Up S S1 vy id s:=
 ⟨h.kept,h.lk,h.X1,h.wt,h.sav,h.most,h.ck,h.pages,h.bl,h.tx,h.sp,Nat.le_trans h.vm hv,h.ok⟩
theorem cnt(h:Up S S1 vx id s){k v:Nat}(hc:Cnt S k v):Cnt S1 k vx:=
 ⟨by rw[h.kept.Qu];exact hc.Qu,by rw[h.lk];exact hc.lk,by rw[h.wt];exact hc.wt,by rw[h.tx];exact hc.tx,by rw[h.most];exact hc.most,h.vm,Int.le_trans h.sp hc.sp,hc.small,by rw[h.sav];exact hc.sav,by rw[h.lk];exact hc.md⟩
end Up
theorem Y3v(w:World)(S:WG)(q:Int)(h:Qh S w):
  Calls Tryz.prog 37 #[.pointer (some ⟨S.T.lb,0,none⟩),.int .i64 q] w fun e w'=>e=.returned (.tuple #[Yg ((Qx S.P.L 0 q).getD Z9),.bool (Qx S.P.L 0 q).isSome])/\Below w.heap.size w w':=by
 rw[h.pl]
 exact D7 w S.P.O.lb S.P.Js S.P.L 0 q h.X2.dl.log (by have:=h.X2.plain.len;have:=h.X2.plain.blk;omega) (by omega) (by omega)
theorem Y0x(w:World)(S:WG)(l n:Int)(h:Qh S w)(h0:0<=l)(hn:Yp S.P.L l n):
  Calls Tryz.prog 144 #[.pointer (some ⟨S.T.lb,0,none⟩),.int .i64 l] w fun e w'=>e=.returned (.tuple #[.int .i64 n,X5 0])/\Below w.heap.size w w':=by
 rw[h.pl]
 exact Q4q w S.P.O.lb S.P.Js S.P.L l n h.X2.dl.log (by have:=h.X2.plain.len;have:=h.X2.plain.blk;omega) h0 hn
def X4g(S:WG)(pg:Int)(g:FrV)(c:Int)(P':X9):Prop:=(pg=0/\c=102/\P'=S.P)\/(c=0/\Calm S.P P' 1/\g∈P'.O.fr/\g.n=pg)
theorem X3x(w:World)(S:WG)(pg:Int)(hint:Nat)(h:Qh S w)(hvm:S.P.D.vm<=800000)(hpg:pg=0\/(1<=pg/\pg<=S.P.pages))(hh:hint<=1000000):
  Calls Tryz.prog 114 #[.pointer (some ⟨S.T.pb,0,none⟩),.int .i64 pg,.int .i64 hint] w fun e w'=>∃P' n z A k c l bad,e=.returned (.tuple #[.agg #[.int .i64 z,.slice A k c],X5 bad])/\X4g S pg ⟨n,z,A,k,c,l⟩ bad P'/\Q8 (Q1 S) (Q1 {S with P:=P'}) w w':=by
 rw[h.pp]
 by_cases h0:pg=0
 ·subst h0
  refine(Q9u w S.P hint h.X2).mono ?_
  rintro e w' ⟨he,hl⟩
  exact⟨S.P,0,0,none,0,0,[],102,he,.inl ⟨rfl,rfl,rfl⟩,h.Uj hl (G5.refl _)⟩
 ·obtain⟨pn,hpn⟩:∃pn:Nat,pg=pn:=⟨pg.toNat,by omega⟩
  subst hpn
  refine(Q2i w S.P pn hint h.X2 hvm (by omega) (by omega) hh).mono ?_
  rintro e w' ⟨P',⟨n,z,A,k,c,l⟩,he,hl,hc,hg,hgn⟩
  exact⟨P',n,z,A,k,c,l,0,he,.inr ⟨rfl,hc,hg,hgn⟩,h.Uj hl hc.same⟩
def Q8x(S S':WG)(v:Nat)(id s till c:Int):Prop:=
 Up S S' (v+400) id s/\((c=0/\(got S'.T.tx id).2.2.2=till)\/(c≠0/\(6*S.P.bl<=S'.P.L.length\/till≠0)))
end
theorem X1c{w:World}{b:Nat}{u0 u1 u2 u3 u4 u5 u6 u7 u8 u9 x0 x1 x2 x3 x4 x5 x6 x7 x8 x9:Value}{t:TypeId}(h:w.heap[b]? =some (.cells #[u0,u1,u2,u3,u4,u5,u6,u7,u8,u9] t (0,0))):
  ((((((((((w.setCell ⟨b,0,none⟩ x0).setCell ⟨b,1,none⟩ x1).setCell ⟨b,2,none⟩ x2).setCell ⟨b,3,none⟩ x3).setCell ⟨b,4,none⟩ x4).setCell ⟨b,5,none⟩ x5).setCell ⟨b,6,none⟩ x6).setCell ⟨b,7,none⟩ x7).setCell ⟨b,8,none⟩ x8).setCell ⟨b,9,none⟩ x9).heap[b]? =some (.cells #[x0,x1,x2,x3,x4,x5,x6,x7,x8,x9] t (0,0)):=by
 have h0:(w.setCell ⟨b,0,none⟩ x0).heap[b]? =some (.cells #[x0,u1,u2,u3,u4,u5,u6,u7,u8,u9] t (0,0)):=by rw[Qn h 0 _];rfl
 have h1:((w.setCell ⟨b,0,none⟩ x0).setCell ⟨b,1,none⟩ x1).heap[b]? =some (.cells #[x0,x1,u2,u3,u4,u5,u6,u7,u8,u9] t (0,0)):=by rw[Qn h0 1 _];rfl
 have h2:(((w.setCell ⟨b,0,none⟩ x0).setCell ⟨b,1,none⟩ x1).setCell ⟨b,2,none⟩ x2).heap[b]? =some (.cells #[x0,x1,x2,u3,u4,u5,u6,u7,u8,u9] t (0,0)):=by rw[Qn h1 2 _];rfl
 have h3:((((w.setCell ⟨b,0,none⟩ x0).setCell ⟨b,1,none⟩ x1).setCell ⟨b,2,none⟩ x2).setCell ⟨b,3,none⟩ x3).heap[b]? =some (.cells #[x0,x1,x2,x3,u4,u5,u6,u7,u8,u9] t (0,0)):=by rw[Qn h2 3 _];rfl
 have h4:(((((w.setCell ⟨b,0,none⟩ x0).setCell ⟨b,1,none⟩ x1).setCell ⟨b,2,none⟩ x2).setCell ⟨b,3,none⟩ x3).setCell ⟨b,4,none⟩ x4).heap[b]? =some (.cells #[x0,x1,x2,x3,x4,u5,u6,u7,u8,u9] t (0,0)):=by rw[Qn h3 4 _];rfl
 have h5:((((((w.setCell ⟨b,0,none⟩ x0).setCell ⟨b,1,none⟩ x1).setCell ⟨b,2,none⟩ x2).setCell ⟨b,3,none⟩ x3).setCell ⟨b,4,none⟩ x4).setCell ⟨b,5,none⟩ x5).heap[b]? =some (.cells #[x0,x1,x2,x3,x4,x5,u6,u7,u8,u9] t (0,0)):=by rw[Qn h4 5 _];rfl
 have h6:(((((((w.setCell ⟨b,0,none⟩ x0).setCell ⟨b,1,none⟩ x1).setCell ⟨b,2,none⟩ x2).setCell ⟨b,3,none⟩ x3).setCell ⟨b,4,none⟩ x4).setCell ⟨b,5,none⟩ x5).setCell ⟨b,6,none⟩ x6).heap[b]? =some (.cells #[x0,x1,x2,x3,x4,x5,x6,u7,u8,u9] t (0,0)):=by rw[Qn h5 6 _];rfl
 have h7:((((((((w.setCell ⟨b,0,none⟩ x0).setCell ⟨b,1,none⟩ x1).setCell ⟨b,2,none⟩ x2).setCell ⟨b,3,none⟩ x3).setCell ⟨b,4,none⟩ x4).setCell ⟨b,5,none⟩ x5).setCell ⟨b,6,none⟩ x6).setCell ⟨b,7,none⟩ x7).heap[b]? =some (.cells #[x0,x1,x2,x3,x4,x5,x6,x7,u8,u9] t (0,0)):=by rw[Qn h6 7 _];rfl
 have h8:(((((((((w.setCell ⟨b,0,none⟩ x0).setCell ⟨b,1,none⟩ x1).setCell ⟨b,2,none⟩ x2).setCell ⟨b,3,none⟩ x3).setCell ⟨b,4,none⟩ x4).setCell ⟨b,5,none⟩ x5).setCell ⟨b,6,none⟩ x6).setCell ⟨b,7,none⟩ x7).setCell ⟨b,8,none⟩ x8).heap[b]? =some (.cells #[x0,x1,x2,x3,x4,x5,x6,x7,x8,u9] t (0,0)):=by rw[Qn h7 8 _];rfl
 have h9:((((((((((w.setCell ⟨b,0,none⟩ x0).setCell ⟨b,1,none⟩ x1).setCell ⟨b,2,none⟩ x2).setCell ⟨b,3,none⟩ x3).setCell ⟨b,4,none⟩ x4).setCell ⟨b,5,none⟩ x5).setCell ⟨b,6,none⟩ x6).setCell ⟨b,7,none⟩ x7).setCell ⟨b,8,none⟩ x8).setCell ⟨b,9,none⟩ x9).heap[b]? =some (.cells #[x0,x1,x2,x3,x4,x5,x6,x7,x8,x9] t (0,0)):=by rw[Qn h8 9 _];rfl
 exact h9
theorem Y2s{w:World}{b:Nat}{u0 u1 x0 x1:Value}{t:TypeId}(h:w.heap[b]? =some (.cells #[u0,u1] t (0,0))):((w.setCell ⟨b,0,none⟩ x0).setCell ⟨b,1,none⟩ x1).heap[b]? =some (.cells #[x0,x1] t (0,0)):=by
 rw[Qn (Qn h 0 _) 1 _];rfl
theorem X9s{w:World}{b:Nat}{x0 x1:Value}{t:TypeId}(h:w.heap[b]? =some (.cells #[.int .i64 0,.slice none 0 0] t (0,0))):((w.setCell ⟨b,0,none⟩ x0).setCell ⟨b,1,none⟩ x1).heap[b]? =some (.cells #[x0,x1] t (0,0)):=Y2s h
theorem Y1v{w:World}{b:Nat}{x0 x1 x2:Value}{t:TypeId}(h:w.heap[b]? =some (.cells fz t (0,0))):(((w.setCell ⟨b,0,none⟩ x0).setCell ⟨b,1,none⟩ x1).setCell ⟨b,2,none⟩ x2).heap[b]? =some (.cells #[x0,x1,x2] t (0,0)):=J6 h
theorem E6{w:World}{b b' i:Nat}{v:Value}{o:Obj}(h:w.heap[b]? =some o)(hn:¬b'=b):(w.setCell ⟨b',i,none⟩ v).heap[b]? =some o:=
 (Kp.setCell w ⟨b',i,none⟩ v).at h (fun he=>hn he.symm)
theorem Part.Y9{A B:Part}{w wX:World}{b i:Nat}{v:Value}(hl:Q8 A B w wX)(hb:w.heap.size<=b)(hn:¬B.U b):Q8 A B w (wX.setCell ⟨b,i,none⟩ v):=Part.aside hl (Kp.setCell wX ⟨b,i,none⟩ v) hb hn
theorem Part.Q4p{A B:Part}{w wX:World}(hl:Q8 A B w wX)(o:Obj):Q8 A B w (wX.alloc o):=Part.Qs hl (Q3 (Below.refl _ _) _)
theorem Part.drew{A B:Part}{w wX:World}(hl:Q8 A B w wX):Q8 A B w wX.drew:=Part.Qs hl (Below.drew (Below.refl _ _))
def Oo(w:World)(b:Nat)(o:Obj):Prop:=w.heap[b]? =some o
theorem Oo.drew{w:World}{b:Nat}{o:Obj}(h:Oo w b o):Oo w.drew b o:=h
theorem Cz(w:World)(o:Obj):Oo (w.alloc o) w.heap.size o:=heap_alloc_new _ _
theorem Q2e(w:World)(o1 o2:Obj):Oo ((w.alloc o1).alloc o2) w.heap.size o1/\Oo ((w.alloc o1).alloc o2) (w.heap.size+1) o2:=Ym w o1 o2
theorem X5o{w:World}{b:Nat}{o:Obj}(h:w.heap.size=b):(w.alloc o).heap[b]? =some o:=by rw[<-h];exact heap_alloc_new _ _
theorem U6{A B:Part}{w X wt:World}(hA:A.P w)(hl:Q8 A B X wt){b:Nat}(hb:w.heap.size<=b)(h:b<X.heap.size\/wt.heap.size<=b):¬B.U b:=fun hu=>
 (hl.2.2 b hu).elim (fun ha=>by have:=A.lt hA b ha;omega) (fun hn=>by have:=B.lt hl.1 b hu;omega)
theorem Q5k{W:World}{a1 a2:Addr}{v1 v2:Value}(h:W.cell? a1=some v1/\W.cell? a2=some v2)(o:Obj):(W.alloc o).cell? a1=some v1/\(W.alloc o).cell? a2=some v2:=
 ⟨(World.cell?_alloc_lt _ _ _ (World.block_lt_of_cell? W a1 h.1)).trans h.1,(World.cell?_alloc_lt _ _ _ (World.block_lt_of_cell? W a2 h.2)).trans h.2⟩
theorem X6d{W:World}{b b1 b2 i i1 i2:Nat}{v v1 v2:Value}(h:W.cell? ⟨b1,i1,none⟩=some v1/\W.cell? ⟨b2,i2,none⟩=some v2)(h1:¬b=b1)(h2:¬b=b2):(W.setCell ⟨b,i,none⟩ v).cell? ⟨b1,i1,none⟩=some v1/\(W.setCell ⟨b,i,none⟩ v).cell? ⟨b2,i2,none⟩=some v2:=
 ⟨(World.cell?_setCell_far W ⟨b,i,none⟩ ⟨b1,i1,none⟩ v h1).trans h.1,(World.cell?_setCell_far W ⟨b,i,none⟩ ⟨b2,i2,none⟩ v h2).trans h.2⟩
theorem X0c{W:World}{a1 a2:Addr}{v1 v2:Value}(h:W.cell? a1=some v1/\W.cell? a2=some v2):W.drew.cell? a1=some v1/\W.drew.cell? a2=some v2:=h
theorem X1t{w:World}{b:Nat}{c:Array Value}{t:TypeId}(h:w.heap[b]? =some (.cells c t (0,0))):w.frozen? ⟨b,0,none⟩=false/\w.frozen? ⟨b,1,none⟩=false/\w.frozen? ⟨b,2,none⟩=false/\w.frozen? ⟨b,3,none⟩=false/\w.frozen? ⟨b,4,none⟩=false/\w.frozen? ⟨b,5,none⟩=false/\w.frozen? ⟨b,6,none⟩=false/\w.frozen? ⟨b,7,none⟩=false/\w.frozen? ⟨b,8,none⟩=false/\w.frozen? ⟨b,9,none⟩=false/\b<w.heap.size:=
 ⟨Q2 h 0,Q2 h 1,Q2 h 2,Q2 h 3,Q2 h 4,Q2 h 5,Q2 h 6,Q2 h 7,Q2 h 8,Q2 h 9,Q6 h⟩
theorem Dc{n b i:Nat}{w wX:World}{v:Value}(h:Below n w wX)(hb:n<=b):Below n w (wX.setCell ⟨b,i,none⟩ v):=h.setCell hb v
theorem Up.fit{S S3:WG}{vx:Nat}{id s:Int}{w:World}(h:Up S S3 vx id s)(hw:Qh S3 w)(hs:s≠1){g:FrV}(hg:g∈S3.P.O.fr){q m:Int}{r:Q9}(hq:Qx S3.P.L 0 q=some r)(hk:r.kind=2)(ht:r.txn=id)(hx:has S3.T.tx id=true)(hm:V7 S3.P.L id m)(hl:m<q)(hgn:g.n=r.page){last:Int}(hla:(got S3.T.tx id).2.2.1=last)(hc:S3.P.L.length<6*S3.P.bl):
  (g.lsn<(S3.P.L.length:Int)+1/\((G2 r q last m).has=true->(has g.l (G2 r q last m).key=true\/g.l.length<20))/\OkP ((S3.P.L.length:Int)+1) (Yj g.l (G2 r q last m))/\G6 (Yj g.l (G2 r q last m)))/\Qq (G2 r q last m)=true/\OkS S.P.pages (6*S.P.bl) id s (S3.abs.changed (G2 r q last m) id (Yj g.l (G2 r q last m))):=by
 have hp:=hw.X2.plain.pg
 have hb:=hw.X2.plain.blk
 have hh:=(hw.X2.plain.here g hg).2.2
 rw[hgn]at hh
 rw[h.bl]at hc hb
 have hpv:S3.abs.pv r.page=(g.lsn,g.l):=hh
 obtain⟨h1,h2,h3,h4,h5,h6⟩:=h.ok.Y7o hs (by have:=h.pages;omega) hc (by omega) hq hk ht hx hm hl
 rw[hpv]at h2 h3 h4 h5 h6
 rw[show S3.abs.tx=S3.T.tx from rfl,hla]at h1 h4 h5 h6
 exact⟨⟨h2,h3,h4,h5⟩,h1,h6⟩
set_option maxRecDepth 4000 in
set_option maxHeartbeats 8000000 in
theorem Q5t(w:World)(S:WG)(k v hint:Nat)(id s till:Int)(h:Qh S w)(hc:Cnt S k v)(hv:v<=600000)(hok:OkS S.P.pages (6*S.P.bl) id s S.abs)(hs:s≠1)(hh:hint<=1000000):
  Calls Tryz.prog 104 #[.pointer (some ⟨S.T.sb,0,none⟩),.int .i64 id,.int .i64 till,.int .i64 hint] w fun e w'=>∃c S',e=.returned (X5 c)/\Q8 (Q1 S) (Q1 S') w w'/\Q8x S S' v id s till c:=by
 have HZ0:=Q0 h
 have HC:=Q0 hc
 have HOK:=Q0 hok
 have HS:=Q0 hs
 have HV:=Q0 hv
 have HHINT:=Q0 hh
 obtain⟨w1,hw1⟩:∃w1,w.alloc (.cells fz 41)=w1:=⟨_,rfl⟩
 have HB1:Sc (Below w.heap.size w w1):=⟨hw1▸Q3 (Below.refl _ _) _⟩
 have HBS:Sc (w1.heap.size=w.heap.size+1):=⟨by rw[<-hw1];simp⟩
 have HN1:Sc (w1.heap[w.heap.size]? =some (.cells fz 41 (0,0))):=⟨by rw[<-hw1];exact heap_alloc_new _ _⟩
 have HZ:Sc (Qh S w1):=⟨(Q1 S).bel h HB1.o⟩
 obtain⟨b8,hb8⟩:∃b,w.heap.size=b:=⟨_,rfl⟩
 have HB8:=Q0 hb8
 have HBX:Sc (∀W,Kp (Q1 S).U w1 W->W.heap[b8]? =some (.cells fz 41 (0,0))):=⟨fun W hk=>hk.at (by rw[<-HB8.o];exact HN1.o) (fun hu=>by have:=(Q1 S).lt HZ0.o _ hu;have:=HB8.o;omega)⟩
 obtain⟨x0,hx0⟩:∃x0,got S.T.tx id=x0:=⟨_,rfl⟩
 have HX0:=Q0 hx0
 have CGT:=Gv w1 S id HZ.o (by have:=hc.tx;have:=hc.small;omega)
 obtain⟨sb,hsb⟩:∃sb,S.T.sb=sb:=⟨_,rfl⟩
 obtain⟨lb,hlb⟩:∃lb,S.T.lb=lb:=⟨_,rfl⟩
 obtain⟨pb,hpb⟩:∃pb,S.T.pb=pb:=⟨_,rfl⟩
 obtain⟨spb,hspb⟩:∃spb,S.T.spb=spb:=⟨_,rfl⟩
 have HSB:Sc (S.T.sb=sb/\S.T.lb=lb/\S.T.pb=pb/\S.T.spb=spb):=⟨⟨hsb,hlb,hpb,hspb⟩⟩
 rw[hsb,hx0]at CGT
 rw[hsb]
 have CGT:=Q0 CGT
 clear h hc hok hs hv hh hsb hlb hpb hspb hx0
 go_enter Tryz.func104,Tryz.ntmps104
 go_wp2_with fail
 try rw[hw1]
 try rw[hb8]
 clear hw1 hb8
 refine CGT.o.mono ?_
 rintro e w2 ⟨rfl,hb2⟩
 have HB2:=Q0 hb2
 go_upto_region 2 with fail
 have HL3:Sc (Q8 (Q1 S) (Q1 S) w1 (w2.alloc (.cells #[.int .i64 x0.1,.int .i64 x0.2.1,.int .i64 x0.2.2.1,.int .i64 x0.2.2.2] 58))):=⟨Part.same (A:=Q1 S) HZ.o (Q3 hb2 _)⟩
 have HN3:Sc ((w2.alloc (.cells #[.int .i64 x0.1,.int .i64 x0.2.1,.int .i64 x0.2.2.1,.int .i64 x0.2.2.2] 58)).heap[w2.heap.size]? =some (.cells #[.int .i64 x0.1,.int .i64 x0.2.1,.int .i64 x0.2.2.1,.int .i64 x0.2.2.2] 58 (0,0))):=⟨heap_alloc_new _ _⟩
 obtain⟨w3,hw3⟩:∃w3,w2.alloc (.cells #[.int .i64 x0.1,.int .i64 x0.2.1,.int .i64 x0.2.2.1,.int .i64 x0.2.2.2] 58)=w3:=⟨_,rfl⟩
 obtain⟨b9,hb9⟩:∃b9,w2.heap.size=b9:=⟨_,rfl⟩
 rw[hw3]at HL3 HN3 ⊢
 rw[hb9]at HN3
 try rw[hb9]
 have HU3:Sc (¬(Q1 S).U b9/\b9<w3.heap.size/\w1.heap.size<=b9):=⟨fun hu=>by have:=(Q1 S).lt HZ0.o _ hu;have:=HB2.o.size;have:=HBS.o;omega,Q6 HN3.o,by rw[<-hb9];exact HB2.o.size⟩
 clear hw3 hb9 hb2
 go_loopg [] (6*S.P.bl - S.P.L.length) (fun kx wr=>∃(S1:WG) (x:TX) (vx:Nat),vx+kx=v+384/\6*S.P.bl<=S1.P.L.length+kx/\Sc (Q8 (Q1 S) (Q1 S1) w1 wr)/\Sc (Up S S1 vx id s)/\Sc (got S1.T.tx id=x)/\Sc (wr.heap[b9]? =some (.cells #[.int .i64 x.1,.int .i64 x.2.1,.int .i64 x.2.2.1,.int .i64 x.2.2.2] 58 (0,0)))/\Sc (¬(Q1 S1).U b9/\b9<wr.heap.size/\w1.heap.size<=b9))
 case atStart=>
  have hbl:=HZ0.o.X2.plain.blk
  refine⟨S,x0,v+384 - (6*S.P.bl - S.P.L.length),by omega,by omega,HL3,⟨Up.start (by have:=HC.o.vm;omega) HOK.o⟩,HX0,HN3,HU3⟩
 case round=>
  obtain⟨S1,x,vx,hvx,hkx,HLA,HI,HX,HNA,HUA⟩:=hrel
  obtain⟨wa,rfl⟩:∃wa,wa=wr:=⟨_,rfl⟩
  have HVX:Sc (vx+gk=v+384/\6*S.P.bl<=S1.P.L.length+gk):=⟨hvx,hkx⟩
  clear hvx hkx HN3 HU3 HL3 CGT HX0
  have HSB1:Sc (S1.T.sb=sb/\S1.T.lb=lb/\S1.T.pb=pb/\S1.T.spb=spb):=⟨by have h1:=HI.o.kept;rw[h1.sb,h1.lb,h1.pb,h1.spb];exact HSB.o⟩
  obtain⟨x0,x1,x2,x3,_,_,_,_,lx⟩:=Qz HNA.o
  obtain⟨q,hq⟩:∃q,x.2.2.2=q:=⟨_,rfl⟩
  have HQX:=Q0 hq
  rw[hq]at x3
  clear hq
  by_cases hqt:q=till
  ·have e0:(q !=till)=false:=by simp[hqt]
   have HQT:=Q0 hqt
   clear hqt
   go_wp2_with fail
   refine(Vc wa).mono ?_
   rintro e w9 ⟨rfl,hb9⟩
   have HL9:=Q0 (Part.Qs HLA.o hb9)
   obtain⟨z0,z1,z2,y0,y1,y2,lz⟩:=Q7 (HBX.o w9 HL9.o.2.1)
   clear hb9
   go_wp2
   refine bodyPost_ret (v:=X5 0) (by simp[results,Tryz.results104,go_sem,z0,z1,z2]) rfl ⟨0,S1,rfl,?_,?_,.inl ⟨rfl,by rw[HX.o,HQX.o,HQT.o]⟩⟩
   ·refine Part.boxed (A:=Q1 S) HZ0.o HB1.o HL9.o ?_
    have e1:=HBS.o
    have e2:=HB8.o
    repeat (first|with_reducible exact Kp.Vd|with_reducible refine Kp.drew ?_|with_reducible refine Kp.put ?_ ⟨by omega,by omega⟩ _)
   ·exact HI.o.up (by have:=HVX.o.1;omega)
  ·have e0:(q !=till)=true:=by simp[hqt]
   have HQT:=Q0 hqt
   clear hqt
   obtain⟨rq,hrq⟩:∃rq,(Qx S1.P.L 0 q).getD Z9=rq:=⟨_,rfl⟩
   obtain⟨bq,hbq⟩:∃bq,(Qx S1.P.L 0 q).isSome=bq:=⟨_,rfl⟩
   have HRQ:=Q0 hrq
   obtain⟨_,_,_,c5,_,_,_,lt⟩:=HLA.o.1.sto.cells
   rw[HSB1.o.1]at c5 lt
   rw[HSB1.o.2.1]at c5
   have CREC:Sc (∀X,Below wa.heap.size wa X->Calls Tryz.prog 37 #[.pointer (some ⟨lb,0,none⟩),.int .i64 q] X fun e w'=>e=.returned (.tuple #[Yg rq,.bool bq])/\Below wa.heap.size wa w'/\Below X.heap.size X w'):=⟨fun X hX=>by
    have:=Y3v X S1 q ((Q1 S1).bel HLA.o.1 hX)
    rw[HSB1.o.2.1,hrq,hbq]at this
    exact this.mono fun e w' ⟨he,hb⟩=>⟨he,Q5 hX hb,hb⟩⟩
   have HH:=Q0 (heap_alloc_new wa (.cells (Qe Z9) 49))
   have HQ:Sc (Below wa.heap.size wa wa):=⟨Below.refl _ _⟩
   have HS0:=Q0 (And.intro c5 x3)
   clear hrq hbq
   go_upto_region 3 with fail
   go_cut [11,12] from 31 to 40 (fun s11 s12 wx=>∃b11,s11=.pointer (some ⟨b11,0,none⟩)/\s12=.bool bq/\wa.heap.size<=b11/\Sc (wx.heap[b11]? =some (.cells (Qe rq) 49 (0,0)))/\Sc (Below wa.heap.size wa wx))
   case first=>
    go_region_held3 (fun W=>W.cell? ⟨sb,5,none⟩=some (.pointer (some ⟨lb,0,none⟩))/\W.cell? ⟨b9,3,none⟩=some (.int .i64 q))
     ((repeat (first|with_reducible assumption|with_reducible exact hss|with_reducible exact HS0.o|with_reducible refine X0c ?_|with_reducible refine Q5k ?_ _|with_reducible refine X6d ?_ (by omega) (by omega))))
     (first
      |(go_at_call 37;go_loud (refine(CREC.o _ (by first|with_reducible exact HQ.o|with_reducible exact Below.drew HQ.o|with_reducible exact Q3 HQ.o _|with_reducible exact Below.drew (Q3 HQ.o _))).mono ?_;rintro e wt ⟨rfl,hq,hq2⟩;have hss:=And.intro ((hq.cell lt).trans HS0.o.1) ((hq.cell lx).trans HS0.o.2);have hsz:=hq.size;have HQ:=Q0 hq;(try have HN:=Q0 (up hq2 HH.o));(try obtain⟨r0,r1,r2,r3,r4,r5,r6,r7,r8,r9⟩:=Qb (up hq2 HH.o));(try obtain⟨f0,f1,f2,f3,f4,f5,f6,f7,f8,f9,lr⟩:=X1t (up hq2 HH.o));clear hq hq2)))
    all_goals
     go_wp2_with fail
     go_meet
     case rel=>
      first
       |exact⟨_,rfl,rfl,HQ.o.size,⟨heap_alloc_new _ _⟩,⟨Q3 HQ.o _⟩⟩
       |exact⟨_,rfl,rfl,Nat.le_refl _,⟨X1c HN.o⟩,⟨(((((((((HQ.o.setCell (Nat.le_refl _) _).setCell (Nat.le_refl _) _).setCell (Nat.le_refl _) _).setCell (Nat.le_refl _) _).setCell (Nat.le_refl _) _).setCell (Nat.le_refl _) _).setCell (Nat.le_refl _) _).setCell (Nat.le_refl _) _).setCell (Nat.le_refl _) _).setCell (Nat.le_refl _) _⟩⟩
   case rest=>
    obtain⟨b11,rfl,rfl,hb11,HN11,HBB⟩:=hcut
    obtain⟨wb,rfl⟩:∃wb,wb=wc:=⟨_,rfl⟩
    have HLB:=Q0 (Part.Qs HLA.o HBB.o)
    have HUB:Sc (¬(Q1 S1).U b11/\b11<wb.heap.size/\w1.heap.size<=b11/\¬b9=b11):=⟨fun hu=>by have:=(Q1 S1).lt HLA.o.1 _ hu;omega,Q6 HN11.o,Nat.le_trans HLA.o.2.1.size hb11,by have:=HUA.o.2.1;omega⟩
    have HNB:=Q0 (up HBB.o HNA.o)
    have HPG:Sc ((q=0/\rq.page=0)\/(q≠0/\has S1.T.tx id=true/\∃m,Qx S1.P.L 0 q=some rq/\rq.kind=2/\rq.txn=id/\0<=rq.prev/\Yp S1.P.L rq.prev m/\V7 S1.P.L id m/\m<q/\1<=rq.page/\rq.page<=S1.P.pages)):=⟨by
     by_cases h0:q=0
     ·left
      refine⟨h0,?_⟩
      rw[<-HRQ.o,h0]
      have:Qx S1.P.L 0 0=none:=by
       cases hh:Qx S1.P.L 0 0 with
       |none=>rfl
       |some r=>have:=Yo hh;omega
      rw[this]
      rfl
     ·right
      obtain⟨hh,r,m,hr,h1,h2,h3,h4,h5,h6,h7,h8⟩:=HI.o.ok.Yc.Y7o (id:=id) (q:=q) (by show(got S1.T.tx id).2.2.2=q;rw[HX.o];exact HQX.o) h0
      have hr':Qx S1.P.L 0 q=some r:=hr
      have he:rq=r:=by rw[<-HRQ.o,hr'];rfl
      subst he
      exact⟨h0,hh,m,hr,h1,h2,h3,h4,h5,h6,h7,by rw[HI.o.pages];exact h8⟩⟩
    clear x0 x1 x2 x3 lx c5 lt hb11
    obtain⟨pg,hpg⟩:∃pg,rq.page=pg:=⟨_,rfl⟩
    have HPGE:=Q0 hpg
    have CGET:Sc (∀X,Below wb.heap.size wb X->Calls Tryz.prog 114 #[.pointer (some ⟨pb,0,none⟩),.int .i64 pg,.int .i64 hint] X fun e w'=>∃P' n z A k c l bad,e=.returned (.tuple #[.agg #[.int .i64 z,.slice A k c],X5 bad])/\X4g S1 pg ⟨n,z,A,k,c,l⟩ bad P'/\Q8 (Q1 S1) (Q1 {S1 with P:=P'}) wb w'/\Q8 (Q1 S1) (Q1 {S1 with P:=P'}) X w'/\(∀b o,Oo X b o->wb.heap.size<=b->w'.heap[b]? =some o)/\(w'.cell? ⟨sb,6,none⟩=some (.pointer (some ⟨pb,0,none⟩))/\w'.cell? ⟨b11,2,none⟩=some (.int .i64 pg))):=⟨fun X hX=>by
     have:=X3x X S1 pg hint ((Q1 S1).bel HLB.o.1 hX) (by have:=HI.o.vm;have:=HVX.o.1;have:=HV.o;omega) (by rw[<-HPGE.o];rcases HPG.o with ⟨_,h⟩|⟨_,_,m,_,_,_,_,_,_,_,h1,h2⟩;exact .inl h;exact .inr ⟨h1,h2⟩) HHINT.o
     rw[HSB1.o.2.2.1]at this
     refine this.mono ?_
     rintro e w' ⟨P',n,z,A,k,c,l,bad,he,hg,hl⟩
     exact⟨P',n,z,A,k,c,l,bad,he,hg,Part.from_ hl hX,hl,fun b o hx hb=>hl.2.1.at hx (fun hu=>by have:=(Q1 S1).lt HLB.o.1 _ hu;omega),by have:=hl.1.sto.cells.2.2.2.2.1;rw[show({S1 with P:=P'}:WG).T.sb=sb from HSB1.o.1,show({S1 with P:=P'}:WG).T.pb=pb from HSB1.o.2.2.1]at this;exact this,by have:=(Qb (hl.2.1.at (up hX HN11.o) HUB.o.1)).2.2.1;rw[HPGE.o]at this;exact this⟩⟩
    obtain⟨_,_,_,_,c6,_,_,lt⟩:=HLB.o.1.sto.cells
    rw[HSB1.o.1]at c6 lt
    rw[HSB1.o.2.2.1]at c6
    obtain⟨r0,r1,r2,r3,r4,r5,r6,r7,r8,r9⟩:=Qb HN11.o
    rw[hpg]at r2
    have lr:=Q6 HN11.o
    have HQ:Sc (Below wb.heap.size wb wb):=⟨Below.refl _ _⟩
    have HS0:=Q0 (And.intro c6 r2)
    clear hpg
    go_upto_region 4 with fail
    go_cut [13,14] from 41 to 51 (fun s13 s14 wx=>∃b13 b14 P' n z A k c l bad,s13=.pointer (some ⟨b13,0,none⟩)/\s14=.pointer (some ⟨b14,0,none⟩)/\Sc (X4g S1 pg ⟨n,z,A,k,c,l⟩ bad P')/\Sc (Q8 (Q1 S1) (Q1 {S1 with P:=P'}) wb wx)/\Sc (wx.heap[b13]? =some (.cells #[.int .i64 z,.slice A k c] 197 (0,0)))/\Sc (wx.heap[b14]? =some (.cells #[.int .i64 bad,.bool false,.int .i64 0] 41 (0,0)))/\Sc (¬(Q1 {S1 with P:=P'}).U b13/\¬(Q1 {S1 with P:=P'}).U b14/\¬b13=b14/\wb.heap.size<=b13/\wb.heap.size<=b14))
    case first=>
     go_region_held3 (fun W=>W.cell? ⟨sb,6,none⟩=some (.pointer (some ⟨pb,0,none⟩))/\W.cell? ⟨b11,2,none⟩=some (.int .i64 pg))
      ((repeat (first|with_reducible assumption|with_reducible exact hss|with_reducible exact HS0.o|with_reducible refine X0c ?_|with_reducible refine Q5k ?_ _|with_reducible refine X6d ?_ (by omega) (by omega))))
      (first
       |(go_at_call 114;go_loud (refine(CGET.o _ (by first|with_reducible exact HQ.o|with_reducible exact Below.drew HQ.o|with_reducible exact Q3 HQ.o _|with_reducible exact Below.drew (Q3 HQ.o _)|with_reducible exact Q3 (Q3 HQ.o _) _|with_reducible exact Below.drew (Q3 (Q3 HQ.o _) _))).mono ?_;rintro e wt ⟨P',n,z,A,k,c,l,bad,rfl,hg,hl,hl2,ht,hss⟩;have hsz:=hl.2.1.size;have HG:=Q0 hg;have HLL:=Q0 hl;have HL2:=Q0 hl2;(first|(with_reducible have N1:=ht _ _ (Q2e wb (.cells #[.int .i64 0,.slice none 0 0] 197) (.cells fz 41)).1 (Nat.le_refl _);have N2:=ht _ _ (Q2e wb (.cells #[.int .i64 0,.slice none 0 0] 197) (.cells fz 41)).2 (Nat.le_succ _);obtain⟨p0,p1⟩:=Qf N1;have g0:=Q2 N1 0;have g1:=Q2 N1 1;have lp:=Q6 N1;have NN1:=Q0 N1;clear N1;obtain⟨f0,f1,f2,f3,f4,f5,lf⟩:=Q7 N2;have NN2:=Q0 N2;clear N2)|(with_reducible have N1:=ht _ _ (Q2e wb (.cells fz 41) (.cells #[.int .i64 0,.slice none 0 0] 197)).2 (Nat.le_succ _);have N2:=ht _ _ (Q2e wb (.cells fz 41) (.cells #[.int .i64 0,.slice none 0 0] 197)).1 (Nat.le_refl _);obtain⟨p0,p1⟩:=Qf N1;have g0:=Q2 N1 0;have g1:=Q2 N1 1;have lp:=Q6 N1;have NN1:=Q0 N1;clear N1;obtain⟨f0,f1,f2,f3,f4,f5,lf⟩:=Q7 N2;have NN2:=Q0 N2;clear N2)|(with_reducible have N1:=ht _ _ (Cz wb (.cells #[.int .i64 0,.slice none 0 0] 197)) (Nat.le_refl _);obtain⟨p0,p1⟩:=Qf N1;have g0:=Q2 N1 0;have g1:=Q2 N1 1;have lp:=Q6 N1;have NN1:=Q0 N1;clear N1)|(with_reducible have N2:=ht _ _ (Cz wb (.cells fz 41)) (Nat.le_refl _);obtain⟨f0,f1,f2,f3,f4,f5,lf⟩:=Q7 N2;have NN2:=Q0 N2;clear N2)|(with_reducible have N1:=ht _ _ (Q2e wb (.cells #[.int .i64 0,.slice none 0 0] 197) (.cells fz 41)).1.drew (Nat.le_refl _);have N2:=ht _ _ (Q2e wb (.cells #[.int .i64 0,.slice none 0 0] 197) (.cells fz 41)).2.drew (Nat.le_succ _);obtain⟨p0,p1⟩:=Qf N1;have g0:=Q2 N1 0;have g1:=Q2 N1 1;have lp:=Q6 N1;have NN1:=Q0 N1;clear N1;obtain⟨f0,f1,f2,f3,f4,f5,lf⟩:=Q7 N2;have NN2:=Q0 N2;clear N2)|(with_reducible have N1:=ht _ _ (Q2e wb (.cells fz 41) (.cells #[.int .i64 0,.slice none 0 0] 197)).2.drew (Nat.le_succ _);have N2:=ht _ _ (Q2e wb (.cells fz 41) (.cells #[.int .i64 0,.slice none 0 0] 197)).1.drew (Nat.le_refl _);obtain⟨p0,p1⟩:=Qf N1;have g0:=Q2 N1 0;have g1:=Q2 N1 1;have lp:=Q6 N1;have NN1:=Q0 N1;clear N1;obtain⟨f0,f1,f2,f3,f4,f5,lf⟩:=Q7 N2;have NN2:=Q0 N2;clear N2)|(with_reducible have N1:=ht _ _ (Cz wb (.cells #[.int .i64 0,.slice none 0 0] 197)).drew (Nat.le_refl _);obtain⟨p0,p1⟩:=Qf N1;have g0:=Q2 N1 0;have g1:=Q2 N1 1;have lp:=Q6 N1;have NN1:=Q0 N1;clear N1)|(with_reducible have N2:=ht _ _ (Cz wb (.cells fz 41)).drew (Nat.le_refl _);obtain⟨f0,f1,f2,f3,f4,f5,lf⟩:=Q7 N2;have NN2:=Q0 N2;clear N2)|skip);clear hg hl hl2 ht)))
     all_goals
      go_wp2_with fail
      go_meet
      case rel=>
       have e1:=HL2.o.2.1.size
       (try simp at e1)
       have e2:=HLL.o.2.1.size
       have hwb:(Q1 S1).P wb:=HLB.o.1
       refine⟨_,_,P',n,z,A,k,c,l,bad,rfl,rfl,HG,⟨?_⟩,⟨?_⟩,⟨?_⟩,⟨?_,?_,?_,?_,?_⟩⟩
       ·repeat (first|with_reducible exact HLL.o|with_reducible refine Part.Q4p ?_ _|with_reducible refine Part.drew ?_|with_reducible refine Part.Y9 ?_ (by omega) (U6 hwb HL2.o (by omega) (by first|(right;omega)|(left;simp;done)|(left;simp;omega))))
       ·repeat (first|with_reducible refine X5o (by simp;done)|with_reducible exact NN1.o|with_reducible refine X9s ?_|with_reducible refine upa ?_ _|with_reducible refine drew_at ?_|with_reducible refine E6 ?_ (by omega))
       ·repeat (first|with_reducible refine X5o (by simp;done)|with_reducible exact NN2.o|with_reducible refine Y1v ?_|with_reducible refine upa ?_ _|with_reducible refine drew_at ?_|with_reducible refine E6 ?_ (by omega))
       ·exact(U6 hwb HL2.o (by omega) (by first|(right;omega)|(left;simp;done)|(left;simp;omega)))
       ·exact(U6 hwb HL2.o (by omega) (by first|(right;omega)|(left;simp;done)|(left;simp;omega)))
       ·omega
       ·omega
       ·omega
    case rest=>
     obtain⟨b13,b14,P',n,z,A,k',c',l,bad,rfl,rfl,HG,HLD,HN13,HN14,HU2⟩:=hcut
     obtain⟨wd,rfl⟩:∃wd,wd=wc:=⟨_,rfl⟩
     obtain⟨S2,hS2⟩:∃S2:WG,{S1 with P:=P'}=S2:=⟨_,rfl⟩
     have HS2:=Q0 hS2
     rw[hS2]at HLD HU2
     have HLAD:=Q0 (Part.trans HLB.o HLD.o)
     have HN9:=Q0 (HLD.o.2.1.at HNB.o HUA.o.1)
     have HN11d:=Q0 (HLD.o.2.1.at HN11.o HUB.o.1)
     have hs9:=HUA.o.2.1
     have hs9':=HBB.o.size
     have hs11:=HUB.o.2.1
     have HU9:Sc (¬(Q1 S2).U b9/\¬(Q1 S2).U b11):=⟨fun hu=>(HLD.o.2.2 _ hu).elim HUA.o.1 (fun hn=>by omega),fun hu=>(HLD.o.2.2 _ hu).elim HUB.o.1 (fun hn=>by omega)⟩
     clear hs9 hs9' hs11 c6 lt r0 r1 r2 r3 r4 r5 r6 r7 r8 r9 lr hS2
     obtain⟨p0,p1,p2,p3,p4,p5,lp⟩:=Q7 HN14.o
     rcases HG.o with ⟨hp0,rfl,hP⟩|⟨rfl,hcm,hgm,hgn⟩
     ·have HQ0:Sc (q=0):=⟨by
       rcases HPG.o with ⟨h,_⟩|⟨_,_,m,_,_,_,_,_,_,_,h1,_⟩
       ·exact h
       ·have:=HPGE.o;omega⟩
      have HS12:Sc (S2=S1):=⟨by rw[<-HS2.o,hP]⟩
      clear hp0 hP
      go_wp2_with fail
      refine(Z0 wd 102 (by decide)).mono ?_
      rintro e w5 ⟨rfl,hb5⟩
      have HL5:=Q0 (Part.Qs HLAD.o hb5)
      have HN5:=Q0 (up hb5 HN14.o)
      clear p0 p1 p2 p3 p4 p5 lp hb5
      obtain⟨p0,p1,p2,p3,p4,p5,lp⟩:=Q7 HN5.o
      obtain⟨z0,z1,z2,y0,y1,y2,lz⟩:=Q7 (HBX.o w5 HL5.o.2.1)
      go_wp2
      refine bodyPost_ret (v:=X5 102) (by simp[results,Tryz.results104,go_sem,z0,z1,z2]) rfl ⟨102,S2,rfl,?_,?_,.inr ⟨by decide,.inr (fun ht=>HQT.o (by rw[HQ0.o,ht]))⟩⟩
      ·refine Part.boxed (A:=Q1 S) HZ0.o HB1.o HL5.o ?_
       have e1:=HBS.o
       have e2:=HB8.o
       repeat (first|with_reducible exact Kp.Vd|with_reducible refine Kp.drew ?_|with_reducible refine Kp.put ?_ ⟨by omega,by omega⟩ _)
      ·rw[HS12.o];exact HI.o.up (by have:=HVX.o.1;omega)
     ·have HCM:=Q0 hcm
      have HGM:Sc ((⟨n,z,A,k',c',l⟩:FrV)∈S2.P.O.fr):=⟨by rw[<-HS2.o];exact hgm⟩
      have HGN:=Q0 hgn
      have HI2:Sc (Up S S2 (vx+1) id s):=⟨by rw[<-HS2.o];exact HI.o.Y8m hcm⟩
      have HST:Sc (S2.P.L=S1.P.L/\S2.T=S1.T):=⟨by rw[<-HS2.o];exact⟨hcm.same.L,rfl⟩⟩
      have hpg1:1<=pg:=by have:=(HLAD.o.1.X2.plain.here _ HGM.o).1;rw[show(⟨n,z,A,k',c',l⟩:FrV).n=pg from hgn]at this;exact this
      rcases HPG.o with ⟨_,h0⟩|⟨hq0,hhas,m,hrec,hk2,htx,hp0,hnm,hsm,hmq,_⟩
      ·exact absurd h0 (by have:=HPGE.o;omega)
      have HREC:Sc (has S1.T.tx id=true/\Qx S1.P.L 0 q=some rq/\rq.kind=2/\rq.txn=id/\0<=rq.prev/\Yp S1.P.L rq.prev m/\V7 S1.P.L id m/\m<q):=⟨⟨hhas,hrec,hk2,htx,hp0,hnm,hsm,hmq⟩⟩
      clear hcm hgm hgn hpg1 hq0 hhas hrec hk2 htx hp0 hnm hsm hmq
      have HSB2:Sc (S2.T.sb=sb/\S2.T.lb=lb/\S2.T.pb=pb/\S2.T.spb=spb):=⟨by rw[HST.o.2];exact HSB1.o⟩
      go_wp2_with fail
      refine(Yf wd).mono ?_
      rintro e w5 ⟨rfl,hb5⟩
      have HB5:=Q0 hb5
      have HL5:=Q0 (Part.Qs HLAD.o hb5)
      obtain⟨_,_,_,c5,_,_,_,lt⟩:=HL5.o.1.sto.cells
      rw[HSB2.o.1]at c5 lt
      rw[HSB2.o.2.1]at c5
      obtain⟨pv,hpv⟩:∃pv,rq.prev=pv:=⟨_,rfl⟩
      have HPV:=Q0 hpv
      clear p0 p1 p2 p3 p4 p5 lp hb5
      obtain⟨r0,r1,r2,r3,r4,r5,r6,r7,r8,r9⟩:=Qb (up HB5.o HN11d.o)
      have lr:=Q6 (up HB5.o HN11d.o)
      rw[hpv]at r3
      have HS0:=Q0 (And.intro c5 r3)
      have CNM:Sc (∀X,Below w5.heap.size w5 X->Calls Tryz.prog 144 #[.pointer (some ⟨lb,0,none⟩),.int .i64 pv] X fun e w'=>e=.returned (.tuple #[.int .i64 m,X5 0])/\Below w5.heap.size w5 w'/\Below X.heap.size X w'):=⟨fun X hX=>by
       have:=Y0x X S2 pv m ((Q1 S2).bel HL5.o.1 hX) (by rw[<-hpv];exact HREC.o.2.2.2.2.1) (by rw[HST.o.1,<-hpv];exact HREC.o.2.2.2.2.2.1)
       rw[HSB2.o.2.1]at this
       exact this.mono fun e w' ⟨he,hb⟩=>⟨he,Q5 hX hb,hb⟩⟩
      have HH:=Q0 (heap_alloc_new w5 (.cells fz 41))
      have HQ:Sc (Below w5.heap.size w5 w5):=⟨Below.refl _ _⟩
      clear hpv
      go_upto_region 7 with fail
      go_cut [15,16] from 55 to 64 (fun s15 s16 wx=>∃b16,s15=.int .i64 m/\s16=.pointer (some ⟨b16,0,none⟩)/\w5.heap.size<=b16/\Sc (wx.heap[b16]? =some (.cells #[.int .i64 0,.bool false,.int .i64 0] 41 (0,0)))/\Sc (Below w5.heap.size w5 wx))
      case first=>
       go_region_held3 (fun W=>W.cell? ⟨sb,5,none⟩=some (.pointer (some ⟨lb,0,none⟩))/\W.cell? ⟨b11,3,none⟩=some (.int .i64 pv))
        ((repeat (first|with_reducible assumption|with_reducible exact hss|with_reducible exact HS0.o|with_reducible refine X0c ?_|with_reducible refine Q5k ?_ _|with_reducible refine X6d ?_ (by omega) (by omega))))
        (first
         |(go_at_call 144;go_loud (refine(CNM.o _ (by first|with_reducible exact HQ.o|with_reducible exact Below.drew HQ.o|with_reducible exact Q3 HQ.o _|with_reducible exact Below.drew (Q3 HQ.o _))).mono ?_;rintro e wt ⟨rfl,hq,hq2⟩;have hss:=And.intro ((hq.cell lt).trans HS0.o.1) ((hq.cell lr).trans HS0.o.2);have hsz:=hq.size;have HQ:=Q0 hq;(try have NN2:=Q0 (up hq2 HH.o));(try obtain⟨f0,f1,f2,f3,f4,f5,lf⟩:=Q7 (up hq2 HH.o));clear hq hq2)))
       all_goals
        go_wp2_with fail
        go_meet
        case rel=>
         have e1:=HQ.o.size
         refine⟨_,rfl,rfl,?_,⟨?_⟩,⟨?_⟩⟩
         ·omega
         ·repeat (first|with_reducible refine X5o (by simp;done)|with_reducible exact NN2.o|with_reducible refine Y1v ?_|with_reducible refine upa ?_ _|with_reducible refine drew_at ?_|with_reducible refine E6 ?_ (by omega))
         ·repeat (first|with_reducible exact HQ.o|with_reducible refine Q3 ?_ _|with_reducible refine Below.drew ?_|with_reducible refine Dc ?_ (by omega))
      case rest=>
       obtain⟨b16,rfl,rfl,hb16,HN16,HB6⟩:=hcut
       obtain⟨w6,rfl⟩:∃w6,w6=wc:=⟨_,rfl⟩
       have HL6:=Q0 (Part.Qs HL5.o HB6.o)
       have HB56:=Q0 (Q5 HB5.o HB6.o)
       clear c5 lt r0 r1 r2 r3 r4 r5 r6 r7 r8 r9 lr hb16
       obtain⟨p0,p1,p2,p3,p4,p5,lp⟩:=Q7 HN16.o
       go_wp2_with fail
       refine(Yf w6).mono ?_
       rintro e w7 ⟨rfl,hb7⟩
       have HL7:=Q0 (Part.Qs HL6.o hb7)
       have HB7:=Q0 (Q5 HB56.o hb7)
       obtain⟨r0,r1,r2,r3,r4,r5,r6,r7,r8,r9⟩:=Qb (up HB7.o HN11d.o)
       obtain⟨x0,x1,x2,x3,_,_,_,_,lx⟩:=Qz (up HB7.o HN9.o)
       rw[HQX.o]at x3
       obtain⟨la,hla⟩:∃la,x.2.2.1=la:=⟨_,rfl⟩
       have HLAST:=Q0 hla
       rw[hla]at x2
       obtain⟨ru,hru⟩:∃ru,(X3v rq q la m).1=ru:=⟨_,rfl⟩
       have HRU:Sc (ru=G2 rq q la m):=⟨by rw[<-hru];unfold X3v;rw[if_pos HREC.o.2.2.1]⟩
       have CUN:=X2v w7 rq q la m
       rw[hru]at CUN
       have CUN:=Q0 CUN
       clear p0 p1 p2 p3 p4 p5 lp hb7 hla hru
       go_wp2_with fail
       refine CUN.o.mono ?_
       rintro e w8 ⟨rfl,hb8⟩
       have HBD8:=Q0 (Q5 HB7.o hb8)
       have HL8:=Q0 (Part.Qs HL7.o hb8)
       clear hb8 r0 r1 r2 r3 r4 r5 r6 r7 r8 r9 x0 x1 x2 x3 lx
       go_upto_region 11 with fail
       obtain⟨w9,hw9⟩:∃w9,w8.alloc (.cells (Qe ru) 49)=w9:=⟨_,rfl⟩
       obtain⟨b17,hb17⟩:∃b17,w8.heap.size=b17:=⟨_,rfl⟩
       have HBD9:Sc (Below wd.heap.size wd w9):=⟨by rw[<-hw9];exact Q3 HBD8.o _⟩
       have HL9:Sc (Q8 (Q1 S) (Q1 S2) w1 w9):=⟨by rw[<-hw9];exact Part.Q4p HL8.o _⟩
       have HN17:Sc (w9.heap[b17]? =some (.cells (Qe ru) 49 (0,0))/\¬(Q1 S2).U b17):=⟨by rw[<-hw9,<-hb17];exact heap_alloc_new _ _,fun hu=>by have:=(Q1 S2).lt HL8.o.1 _ hu;omega⟩
       rw[hw9]
       try rw[hb17]
       clear hw9 hb17
       obtain⟨_,_,_,_,_,_,c11,lt⟩:=HL9.o.1.sto.cells
       rw[HSB2.o.1]at c11 lt
       have CSP:=Q0 (E9 w9 S2 1 HL9.o.1 (by omega) (by omega))
       go_wp2_with fail
       refine CSP.o.mono ?_
       rintro e w10 ⟨bo,k3,rfl,hk3,hl10⟩
       obtain⟨S3,hS3⟩:∃S3,S2.space S2.f k3=S3:=⟨_,rfl⟩
       have HT3:Sc (S3.T=S1.T/\S3.P=S2.P/\S3.P.L=S1.P.L):=⟨by rw[<-hS3];exact⟨HST.o.2,rfl,HST.o.1⟩⟩
       have HI3:Sc (Up S S3 (vx+1) id s):=⟨by rw[<-hS3];exact HI2.o.Y8j hk3⟩
       rw[hS3]at hl10
       have HL10:=Q0 (Part.trans HL9.o hl10)
       have HN9b:=Q0 (hl10.2.1.at (up HBD9.o HN9.o) HU9.o.1)
       have HN13b:=Q0 (hl10.2.1.at (up HBD9.o HN13.o) HU2.o.1)
       have HN14b:=Q0 (hl10.2.1.at (up HBD9.o HN14.o) HU2.o.2.1)
       have HN17b:=Q0 (hl10.2.1.at HN17.o.1 HN17.o.2)
       have HU3:Sc (¬(Q1 S3).U b9/\¬(Q1 S3).U b14/\b9<w10.heap.size/\b14<w10.heap.size/\w1.heap.size<=b14):=⟨fun hu=>(hl10.2.2 _ hu).elim HU9.o.1 (fun hn=>by have:=Q6 (up HBD9.o HN9.o);omega),fun hu=>(hl10.2.2 _ hu).elim HU2.o.2.1 (fun hn=>by have:=Q6 (up HBD9.o HN14.o);omega),Q6 HN9b.o,Q6 HN14b.o,by have:=HU2.o.2.2.2.2;have:=HLB.o.2.1.size;omega⟩
       have HFIT:Sc (S3.P.L.length<6*S3.P.bl->(z<(S3.P.L.length:Int)+1/\(ru.has=true->(has l ru.key=true\/l.length<20))/\OkP ((S3.P.L.length:Int)+1) (Yj l ru)/\G6 (Yj l ru))/\Qq ru=true/\OkS S.P.pages (6*S.P.bl) id s (S3.abs.changed ru id (Yj l ru))):=⟨by
        rw[HRU.o]
        exact HI3.o.fit HL10.o.1 HS.o (g:=⟨n,z,A,k',c',l⟩) (by rw[HT3.o.2.1];exact HGM.o) (r:=rq) (by rw[HT3.o.2.2];exact HREC.o.2.1) HREC.o.2.2.1 HREC.o.2.2.2.1 (by rw[HT3.o.1];exact HREC.o.1) (by rw[HT3.o.2.2];exact HREC.o.2.2.2.2.2.2.1) HREC.o.2.2.2.2.2.2.2 (by rw[HPGE.o];exact HGN.o) (by rw[HT3.o.1,HX.o];exact HLAST.o)⟩
       have HRK:Sc (ru.kind=3/\ru.txn=id/\ru.next=m/\ru.page=rq.page):=⟨by rw[HRU.o];exact⟨rfl,HREC.o.2.2.2.1,rfl,rfl⟩⟩
       have CDN:Sc (Calls Tryz.prog 143 #[.pointer (some ⟨sb,0,none⟩),.agg #[.int .i64 z,.slice A k' c'],.agg (Qe ru),.int .i64 m] w10 (Q3q S3 ru m (Yj l ru) w10)):=⟨by
        have:=X1l w10 S3 ⟨n,z,A,k',c',l⟩ ru m m HL10.o.1 (by rw[HT3.o.2.1];exact HGM.o) (by rw[HRK.o.2.2.2,HPGE.o];exact HGN.o) (.inr HRK.o.1) (by rw[if_neg (by rw[HRK.o.1];omega)]) (by rw[HI3.o.tx];have:=HC.o.tx;have:=HC.o.small;omega) (fun hh=>(HFIT.o hh).1)
        rw[show S3.T.sb=sb from by rw[HT3.o.1];exact HSB1.o.1]at this
        exact this⟩
       obtain⟨g0,g1⟩:=Qf HN13b.o
       obtain⟨r0,r1,r2,r3,r4,r5,r6,r7,r8,r9⟩:=Qb HN17b.o
       obtain⟨p0,p1,p2,p3,p4,p5,lp⟩:=Q7 HN14b.o
       clear hS3 hk3 hl10 c11 lt
       go_wp2_with fail
       refine CDN.o.mono ?_
       rintro e w11 (⟨ce,row',hce,rfl,hgf,hl11⟩|⟨S4,rfl,hgd,hlen,hl11,hdid⟩)
       ·have HCE:=Q0 hce
        have HGF:=Q0 hgf
        have HL11:=Q0 (Part.trans HL10.o hl11)
        have HN14c:=Q0 (hl11.2.1.at HN14b.o HU3.o.2.1)
        have HU4:Sc (¬(Q1 (S3.Xg row' S3.P.L)).U b14):=⟨fun hu=>(hl11.2.2 _ hu).elim HU3.o.2.1 (fun hn=>by have:=HU3.o.2.2.2.1;omega)⟩
        clear hce hgf hl11 g0 g1 r0 r1 r2 r3 r4 r5 r6 r7 r8 r9 p0 p1 p2 p3 p4 p5 lp
        obtain⟨p0,p1,p2,p3,p4,p5,lp⟩:=Q7 HN14c.o
        go_upto_region 13 with fail
        obtain⟨w12,hw12⟩:∃w12,((w11.setCell ⟨b14,0,none⟩ (.int .i64 ce)).setCell ⟨b14,1,none⟩ (.bool false)).setCell ⟨b14,2,none⟩ (.int .i64 0)=w12:=⟨_,rfl⟩
        have HL12:Sc (Q8 (Q1 S) (Q1 (S3.Xg row' S3.P.L)) w1 w12):=⟨by rw[<-hw12];exact Part.aside HL11.o De HU3.o.2.2.2.2 HU4.o⟩
        have HN12:Sc (w12.heap[b14]? =some (.cells #[.int .i64 ce,.bool false,.int .i64 0] 41 (0,0))):=⟨by rw[<-hw12];exact J6 HN14c.o⟩
        rw[hw12]
        clear hw12 p0 p1 p2 p3 p4 p5 lp
        obtain⟨p0,p1,p2,p3,p4,p5,lp⟩:=Q7 HN12.o
        go_wp2_with fail
        refine(Z0 w12 ce HCE.o).mono ?_
        rintro e w13 ⟨rfl,hb13⟩
        have HL13:=Q0 (Part.Qs HL12.o hb13)
        have HN13:=Q0 (up hb13 HN12.o)
        clear p0 p1 p2 p3 p4 p5 lp hb13
        obtain⟨p0,p1,p2,p3,p4,p5,lp⟩:=Q7 HN13.o
        obtain⟨z0,z1,z2,y0,y1,y2,lz⟩:=Q7 (HBX.o w13 HL13.o.2.1)
        go_wp2
        refine bodyPost_ret (v:=X5 ce) (by simp[results,Tryz.results104,go_sem,z0,z1,z2]) rfl ⟨ce,S3.Xg row' S3.P.L,rfl,?_,(HI3.o.Xg row').up (by have:=HVX.o.1;omega),.inr ⟨HCE.o,.inl ?_⟩⟩
        ·refine Part.boxed (A:=Q1 S) HZ0.o HB1.o HL13.o ?_
         have e1:=HBS.o
         have e2:=HB8.o
         repeat (first|with_reducible exact Kp.Vd|with_reducible refine Kp.drew ?_|with_reducible refine Kp.put ?_ ⟨by omega,by omega⟩ _)
        ·show 6*S.P.bl<=S3.P.L.length
         rw[<-HI3.o.bl]
         rcases HGF.o with h1|h1
         ·rcases Nat.lt_or_ge S3.P.L.length (6*S3.P.bl) with h2|h2
          ·have:=(HFIT.o h2).2.1
           rw[h1]at this
           cases this
          ·exact h2
         ·exact h1
       ·have HLEN:=Q0 hlen
        have HDID:=Q0 hdid
        have HL11:=Q0 (Part.trans HL10.o hl11)
        have HN14c:=Q0 (hl11.2.1.at HN14b.o HU3.o.2.1)
        have HN9c:=Q0 (hl11.2.1.at HN9b.o HU3.o.1)
        have HU4:Sc (¬(Q1 S4).U b14/\¬(Q1 S4).U b9):=⟨fun hu=>(hl11.2.2 _ hu).elim HU3.o.2.1 (fun hn=>by have:=HU3.o.2.2.2.1;omega),fun hu=>(hl11.2.2 _ hu).elim HU3.o.1 (fun hn=>by have:=HU3.o.2.2.1;omega)⟩
        have HI4:Sc (Up S S4 (vx+1) id s):=⟨HI3.o.did hdid HRK.o.2.1 (by unfold Vg;rw[if_neg (by rw[HRK.o.1];omega)];exact HRK.o.2.2.1.symm) (HFIT.o hlen).2.2⟩
        have HL4:Sc (S4.P.L.length=S1.P.L.length+1):=⟨by
         have:S4.P.L=S3.P.L++[ru]:=congrArg Abs.L hdid.abs
         rw[this,List.length_append,HT3.o.2.2]
         rfl⟩
        have hgk:1<=gk:=by
         have h1:=HLEN.o
         have h2:=HVX.o.2
         rw[HI3.o.bl,HT3.o.2.2]at h1
         omega
        clear hgd hlen hl11 hdid g0 g1 r0 r1 r2 r3 r4 r5 r6 r7 r8 r9 p0 p1 p2 p3 p4 p5 lp
        obtain⟨p0,p1,p2,p3,p4,p5,lp⟩:=Q7 HN14c.o
        go_upto_region 13 with fail
        obtain⟨w12,hw12⟩:∃w12,((w11.setCell ⟨b14,0,none⟩ (.int .i64 0)).setCell ⟨b14,1,none⟩ (.bool false)).setCell ⟨b14,2,none⟩ (.int .i64 0)=w12:=⟨_,rfl⟩
        have HK12:Sc (Kp (fun q=>q=b14) w11 w12):=⟨by rw[<-hw12];exact De⟩
        have HL12:Sc (Q8 (Q1 S) (Q1 S4) w1 w12):=⟨Part.aside HL11.o HK12.o HU3.o.2.2.2.2 HU4.o.1⟩
        have HN12:Sc (w12.heap[b14]? =some (.cells #[.int .i64 0,.bool false,.int .i64 0] 41 (0,0))):=⟨by rw[<-hw12];exact J6 HN14c.o⟩
        have HNE:Sc (¬b9=b14):=⟨by have:=HU2.o.2.2.2.2;have:=HUA.o.2.1;have:=HBB.o.size;omega⟩
        have HN9d:=Q0 (HK12.o.at HN9c.o HNE.o)
        rw[hw12]
        clear hw12 p0 p1 p2 p3 p4 p5 lp
        obtain⟨p0,p1,p2,p3,p4,p5,lp⟩:=Q7 HN12.o
        go_wp2_with fail
        refine(Yf w12).mono ?_
        rintro e w13 ⟨rfl,hb13⟩
        have HL13:=Q0 (Part.Qs HL12.o hb13)
        have HN9e:=Q0 (up hb13 HN9d.o)
        have hsb4:S4.T.sb=sb:=by have h1:=HI4.o.kept.sb;rw[h1];exact HSB.o.1
        obtain⟨xn,hxn⟩:∃xn,got S4.T.tx id=xn:=⟨_,rfl⟩
        have CGT:=Gv w13 S4 id HL13.o.1 (by rw[HI4.o.tx];have:=HC.o.tx;have:=HC.o.small;omega)
        rw[hsb4,hxn]at CGT
        have HXN:=Q0 hxn
        have CGT:=Q0 CGT
        clear hsb4 hxn p0 p1 p2 p3 p4 p5 lp hb13
        go_wp2_with fail
        refine CGT.o.mono ?_
        rintro e w14 ⟨rfl,hb14⟩
        have HL14:=Q0 (Part.Qs HL13.o hb14)
        have HN9f:=Q0 (up hb14 HN9e.o)
        clear hb14
        obtain⟨x0,x1,x2,x3,t0,t1,t2,t3,lx⟩:=Qz HN9f.o
        go_wp2
        go_roundg (gk - 1)
        case measure=>omega
        case rel=>
         refine⟨S4,xn,vx+1,by have:=HVX.o.1;omega,by have:=HVX.o.2;have:=HL4.o;omega,⟨?_⟩,HI4,HXN,⟨Ou HN9f.o⟩,⟨HU4.o.2,by simp;exact lx,HUA.o.2.2⟩⟩
         exact Part.Y9 (Part.Y9 (Part.Y9 (Part.Y9 HL14.o HUA.o.2.2 HU4.o.2) HUA.o.2.2 HU4.o.2) HUA.o.2.2 HU4.o.2) HUA.o.2.2 HU4.o.2
end Go.Proofs.YtoapihepdallbaaGreatDoor
