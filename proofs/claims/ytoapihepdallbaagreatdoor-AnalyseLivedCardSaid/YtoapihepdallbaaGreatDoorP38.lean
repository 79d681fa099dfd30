import Derived.Test.YtoapihepdallbaaGreatDoorP36
namespace Go.Proofs.YtoapihepdallbaaGreatDoor
open Go.RowKit
abbrev zM:Array Value:= #[.int .i64 0,.int .i64 0,.int .i64 0,.int .i64 0,.int .i64 0,.int .i64 0,.int .i64 0]
theorem Xx{w:World}{b:Nat}{u0 u1 u2 u3 u4 u5 u6:Value}{t:TypeId}(h:w.heap[b]? =some (.cells #[u0,u1,u2,u3,u4,u5,u6] t (0,0))):w.cell? ⟨b,0,none⟩=some u0/\w.cell? ⟨b,1,none⟩=some u1/\w.cell? ⟨b,2,none⟩=some u2/\w.cell? ⟨b,3,none⟩=some u3/\w.cell? ⟨b,4,none⟩=some u4/\w.cell? ⟨b,5,none⟩=some u5/\w.cell? ⟨b,6,none⟩=some u6/\w.frozen? ⟨b,0,none⟩=false/\w.frozen? ⟨b,1,none⟩=false/\w.frozen? ⟨b,2,none⟩=false/\w.frozen? ⟨b,3,none⟩=false/\w.frozen? ⟨b,4,none⟩=false/\w.frozen? ⟨b,5,none⟩=false/\w.frozen? ⟨b,6,none⟩=false/\b<w.heap.size:=
 ⟨by simp[World.cell?,h],by simp[World.cell?,h],by simp[World.cell?,h],by simp[World.cell?,h],by simp[World.cell?,h],by simp[World.cell?,h],by simp[World.cell?,h],Q2 h 0,Q2 h 1,Q2 h 2,Q2 h 3,Q2 h 4,Q2 h 5,Q2 h 6,Q6 h⟩
structure X4f(S S':WG)(ck':Int):Prop where
 T:S'.T=S.T
 f:S'.f=S.f
 k:S'.k=S.k
 pages:S'.P.pages=S.P.pages
 bl:S'.P.bl=S.P.bl
 vm:S'.P.D.vm<=S.P.D.vm
 ok:Ok S.P.pages (6*S.P.bl) {S'.abs with ck:=ck'}
theorem X7y{P:X9}{w:World}(h:Ya P w):P.O.tab.length<=8:=by
 have h1:=h.plain.few
 have h2:=h.plain.most
 have hnd:(P.O.tab.map (·.1)).Nodup:=List.pairwise_map.2 (List.Pairwise.imp (fun {a b} h=>by omega) h.rising)
 have:=X2x.nodup_len hnd (K:=P.O.fr.map (·.n)) (fun x hx=>by
  obtain⟨y,hy,rfl⟩:=List.mem_map.1 hx
  obtain⟨f,hf,he⟩:=h.plain.Zt y hy
  exact List.mem_map.2 ⟨f,hf,he⟩)
 rw[List.length_map,List.length_map]at this
 omega
theorem Y5r{S:WG}{w:World}(h:Qh S w)(hok:Ok S.P.pages (6*S.P.bl) S.abs){i:Nat}(hi:i=0\/S.P.L.length<6*S.P.bl):Ok S.P.pages (6*S.P.bl) {S.abs with L:=S.P.L++(Vw S.T.tx S.P.O.tab S.T.most).take i}:=by
 have hbl:=h.X2.plain.blk
 have hpg:=h.X2.plain.pg
 rcases hi with rfl|hi
 ·rw[List.take_zero,List.append_nil];exact hok
 ·obtain⟨hv,ha⟩:=hok.live.resolve_left (by show ¬(6*S.P.bl<=S.P.L.length);omega)
  obtain⟨h1,h2⟩:=Ok.many ((Vw S.T.tx S.P.O.tab S.T.most).take i) hok.Yc hv (fun r hr=>Q1w hok.Yc hv ha (by omega) (by show S.P.L.length<=1000;omega) r (List.mem_of_mem_take hr))
  exact⟨h1,.inr ⟨h2,ha⟩⟩
theorem Y6z{S S3:WG}{r:Option Nat}{L:List Q9}(hT:S3.T=S.T)(hP:S3.P={S.P with Js:=r,L:=L}):S3.abs={S.abs with L:=L}:=by
 unfold WG.abs
 rw[hT,hP]
theorem X1e{w:World}{b:Nat}{u0 u1 u2 u3 u4 u5 u6 x:Value}{t:TypeId}(h:w.heap[b]? =some (.cells #[u0,u1,u2,u3,u4,u5,u6] t (0,0))):(w.setCell ⟨b,3,none⟩ x).heap[b]? =some (.cells #[u0,u1,u2,x,u4,u5,u6] t (0,0)):=by
 rw[Qn h 3 _];rfl
def DlK(S S':WG)(w w':World):Prop:=Kp S.P.dl.U w w'/\∀q,S'.P.dl.U q->S.P.dl.U q\/w.heap.size<=q
theorem DlK.same(S:WG){w w':World}(hb:Below w.heap.size w w'):DlK S S w w':=⟨Kp.Qi hb _,fun _ h=> .inl h⟩
theorem DlK.trans{A B C:WG}{w w1 w2:World}(h:DlK A B w w1)(k:DlK B C w1 w2):DlK A C w w2:=
 ⟨h.1.trans k.1 h.2,fun q hq=>(k.2 q hq).elim (h.2 q) (fun hn=> .inr (Nat.le_trans h.1.size hn))⟩
theorem DlK.Y9{A B:WG}{w wX:World}{b i:Nat}{v:Value}(h:DlK A B w wX)(hb:w.heap.size<=b):DlK A B w (wX.setCell ⟨b,i,none⟩ v):=
 ⟨h.1.trans (Kp.setCell wX ⟨b,i,none⟩ v) (fun q hq=> .inr (by have:q=b:=hq;omega)),h.2⟩
theorem DlK.Q4p{A B:WG}{w wX:World}(h:DlK A B w wX)(o:Obj):DlK A B w (wX.alloc o):=h.trans (DlK.same B (Q3 (Below.refl _ _) _))
theorem DlK.from_{A B:WG}{w0 w w':World}(h:DlK A B w w')(hb:Below w0.heap.size w0 w):DlK A B w0 w':=(DlK.same A hb).trans h
def X7c(S:WG)(r:Q9)(a c:Int)(w w':World):Prop:=
 ((Qq r=true/\S.P.L.length<6*S.P.bl)/\a=(S.P.L.length:Int)+1/\c=0/\∃row',Q8 (Q1 S) (Q1 (S.Xg row' (S.P.L++[r]))) w w'/\DlK S (S.Xg row' (S.P.L++[r])) w w')\/
 ((Qq r=false\/6*S.P.bl<=S.P.L.length)/\a=0/\c≠0/\∃row',Q8 (Q1 S) (Q1 (S.Xg row' S.P.L)) w w'/\DlK S (S.Xg row' S.P.L) w w')
theorem Y0w(w:World)(S:WG)(r:Q9)(h:Qh S w):
  Calls Tryz.prog 26 #[.pointer (some ⟨S.T.lb,0,none⟩),Yg r] w fun e w'=>∃a c:Int,e=.returned (.tuple #[.int .i64 a,.int .i64 c])/\X7c S r a c w w':=by
 have hp:=h.X2.plain
 have hg:=hp.gbl
 have hb:=hp.blk
 have hn:=hp.len
 rw[h.pl]
 refine(Dr (G:=S.P.G) w S.P.O.lb S.P.Js S.P.L r h.X2.dl.log (by omega) (by omega)).mono ?_
 rintro e w' (⟨⟨h1,h2⟩,he,row',hl⟩|⟨h1,c,hc,he,row',hl⟩)
 ·refine⟨_,_,he,.inl ⟨⟨h1,by omega⟩,rfl,rfl,row',h.Oi (h.X2.Q3k hl (hp.log (by rw[List.length_append,List.length_singleton];omega) (by rw[List.length_append];omega) (fun q hq=>by
   rcases List.mem_append.1 hq with hq|hq
   ·exact hp.Jo q hq
   ·rw[List.mem_singleton.1 hq];exact h1))) rfl rfl rfl rfl rfl,hl.2.1.mono (fun q hq=> .inr hq),fun q hq=> ?_⟩⟩
  rcases hq with hq|hq
  ·exact .inl (.inl hq)
  ·exact(hl.2.2 q hq).imp .inr id
 ·refine⟨_,_,he,.inr ⟨h1.imp_right (fun h=>by omega),rfl,hc,row',h.Oi (h.X2.Q3k hl (hp.log hn (Nat.le_refl _) hp.Jo)) rfl rfl rfl rfl rfl,hl.2.1.mono (fun q hq=> .inr hq),fun q hq=> ?_⟩⟩
  rcases hq with hq|hq
  ·exact .inl (.inl hq)
  ·exact(hl.2.2 q hq).imp .inr id
theorem Q7b(w:World)(S:WG)(h:Qh S w)(hvm:S.P.D.vm<=900000):
  Calls Tryz.prog 107 #[.pointer (some ⟨S.T.lb,0,none⟩)] w fun e w'=>e=.returned (.int .i64 0)/\∃P',(Q8 (Q1 S) (Q1 {S with P:=P'}) w w'/\DlK S {S with P:=P'} w w')/\G5 S.P P'/\P'.O=S.P.O/\P'.D.vm<=S.P.D.vm:=by
 have hp:=h.X2.plain
 rw[h.pl]
 refine(Q0f w S.P.D S.P.G S.P.O.lb S.P.Js S.P.L (S.P.pages+1) S.P.bl h.X2.dl hp.fi hp.len hp.blk (by have:=hp.size;omega) (by have:=hp.size;have:=hp.pg;have:=hp.blk;omega) hp.dn.1 hp.dn.2 hp.Jo hvm (by have:=hp.size;omega)).mono ?_
 rintro e w' ⟨he,D',hl,hd,hs,hlen,hv,hap⟩
 have hsm:G5 S.P {S.P with D:=D',G:={S.P.G with dn:=S.P.L.length}}:=⟨rfl,rfl,rfl,rfl,rfl,rfl,rfl,rfl⟩
 exact⟨he,{S.P with D:=D',G:={S.P.G with dn:=S.P.L.length}},⟨h.Uj (h.X2.Q1d hl hap hd rfl (hp.Q3e hs hlen)) hsm,hl.2.1,hl.2.2⟩,hsm,rfl,hv⟩
theorem X3y(w:World)(S:WG)(ck p q f:Int)(h:Qh S w)(hok:Q3r ck p q f)(hvm:S.P.D.vm<=1000000):
  Calls Tryz.prog 49 #[.pointer (some ⟨S.T.db,0,none⟩),X0z ck p q f] w fun e w'=>e=.returned (.int .i64 0)/\∃P',(Q8 (Q1 S) (Q1 {S with P:=P'}) w w'/\DlK S {S with P:=P'} w w')/\Calm S.P P' 0/\P'.O=S.P.O:=by
 have hp:=h.X2.plain
 have h1:=Yr.vm1 h.X2
 rw[h.pd,h.X2.db]
 refine(Ef S.P.D w ck p q f h.X2.dl.V8 hok (by have:=hp.size;omega) (by have:=hp.size;have:=hp.pg;have:=hp.blk;omega) hvm).mono ?_
 rintro e w' ⟨he,D',g,hl,hdb,hc,hv⟩
 have hdl:=Part.left (C:=S.P.lp) hl h.X2.dl.log h.X2.dl.apart
 have hap:=(Part.Um (C:=S.P.lp) hl h.X2.dl.log h.X2.dl.apart).2
 have hsm:G5 S.P {S.P with D:=D',G:=S.P.G}:=⟨rfl,rfl,rfl,rfl,rfl,rfl,rfl,rfl⟩
 refine⟨he,{S.P with D:=D',G:=S.P.G},⟨h.Uj (h.X2.Q1d hdl hap hdb rfl {hp with size:= ?_,clean:=fun n a b c=> ?_}) hsm,hdl.2.1,hdl.2.2⟩,⟨hsm,fun _ h=>h,?_⟩,rfl⟩
 ·show D'.s.length=_
  rw[<-Qw.Yh,hc,List.length_set,Qw.Yh];exact hp.size
 ·show D'.c[n]? =_
  rw[hc,List.getElem?_set_ne (by omega)];exact hp.clean n a b c
 ·show D'.vm<=S.P.D.vm+0;omega
set_option maxRecDepth 4000 in
set_option maxHeartbeats 8000000 in
theorem Y0y(w:World)(S:WG)(k v:Nat)(vt vg:Value)(h:Qh S w)(hc:Cnt S k v)(hv:v<=800000)(hok:Ok S.P.pages (6*S.P.bl) S.abs)(hfr:1<=S.T.Xf/\S.T.Xf<=8)(hot:Own Qg 4 58 0 w vt S.T.tx)(hog:Own Qj 2 60 0 w vg S.P.O.tab):
  Calls Tryz.prog 109 #[.pointer (some ⟨S.T.db,0,none⟩),.pointer (some ⟨S.T.lb,0,none⟩),X0z S.T.ck (S.T.pages:Nat) (S.T.bl:Nat) (S.T.Xf:Nat),.int .i64 S.T.most,vt,vg] w fun e w'=>∃ck' c S',e=.returned (.tuple #[X0z ck' (S.T.pages:Nat) (S.T.bl:Nat) (S.T.Xf:Nat),.int .i64 c])/\Q8 (Q1 S) (Q1 S') w w'/\X4f S S' ck'/\DlK S S' w w':=by
 obtain⟨i0,hi,hz0,hz1,hz2⟩:=info_parts Ep
 have HZ0:=Q0 h
 have HC:=Q0 hc
 have HV:=Q0 hv
 have HOK:=Q0 hok
 have HFR:=Q0 hfr
 have hnt0:S.T.tx.length<=200:=by have:=hc.tx;have:=hc.small;omega
 have hng0:S.P.O.tab.length<=8:=X7y h.X2
 obtain⟨tx,htx⟩:∃tx,S.T.tx=tx:=⟨_,rfl⟩
 obtain⟨tab,htab⟩:∃tab,S.P.O.tab=tab:=⟨_,rfl⟩
 obtain⟨most,hmost⟩:∃most,S.T.most=most:=⟨_,rfl⟩
 obtain⟨ck,hck'⟩:∃ck,S.T.ck=ck:=⟨_,rfl⟩
 obtain⟨pn,hpn⟩:∃pn:Int,(S.T.pages:Int)=pn:=⟨_,rfl⟩
 obtain⟨bn,hbn⟩:∃bn:Int,(S.T.bl:Int)=bn:=⟨_,rfl⟩
 obtain⟨fn,hfn⟩:∃fn:Int,(S.T.Xf:Int)=fn:=⟨_,rfl⟩
 obtain⟨db,hdb⟩:∃db,S.T.db=db:=⟨_,rfl⟩
 obtain⟨lb,hlb⟩:∃lb,S.T.lb=lb:=⟨_,rfl⟩
 have HE:Sc ((S.T.tx=tx/\S.P.O.tab=tab/\S.T.most=most/\S.T.ck=ck)/\((S.T.pages:Int)=pn/\(S.T.bl:Int)=bn/\(S.T.Xf:Int)=fn)/\S.T.db=db/\S.T.lb=lb):=⟨⟨htx,htab,hmost,hck'⟩,⟨hpn,hbn,hfn⟩,hdb,hlb⟩
 rw[htx]at hot hnt0
 rw[htab]at hog hng0
 obtain⟨At,ct,rfl,hnt,hct⟩:=hot.slice
 obtain⟨Ag,cg,rfl,hng,hcg⟩:=hog.slice
 obtain⟨nt,hnt'⟩:∃n,tx.length=n:=⟨_,rfl⟩
 obtain⟨ng,hng'⟩:∃n,tab.length=n:=⟨_,rfl⟩
 rw[hnt']at hot hnt0 ⊢
 rw[hng']at hog hng0 ⊢
 have HNT:=Q0 hnt'
 have HNG:=Q0 hng'
 have HOT:=Q0 hot
 have HOG:=Q0 hog
 rw[hmost,hck',hpn,hbn,hfn,hdb,hlb]
 obtain⟨w1,hw1⟩:∃w1,(w.alloc (.cells (Zy ck pn bn fn) 91)).alloc (.cells zM 91)=w1:=⟨_,rfl⟩
 have HB1:Sc (Below w.heap.size w w1):=⟨hw1▸Q3 (Q3 (Below.refl _ _) _) _⟩
 have H2:=Ym w (.cells (Zy ck pn bn fn) 91) (.cells zM 91)
 rw[hw1]at H2
 have HBS:Sc (w1.heap.size=w.heap.size+2):=⟨by rw[<-hw1];simp⟩
 obtain⟨b8,hb8⟩:∃b,w.heap.size=b:=⟨_,rfl⟩
 have HB8:=Q0 hb8
 rw[hb8]at H2
 have H2:=Q0 H2
 clear h hc hv hok hfr hot hog hnt' hng' htx htab hmost hck' hpn hbn hfn hdb hlb hnt hct hng hcg
 go_enter Tryz.func109,Tryz.ntmps109
 go_upto_region 2 with fail
 obtain⟨w2,hw2⟩:∃w2,w1.alloc (.cells #[.int .i64 7,.int .i64 0,.int .i64 0,.int .i64 0,.int .i64 0,.int .i64 0,.bool false,.bool false,.int .i64 0,.int .i64 0] 49)=w2:=⟨_,rfl⟩
 have HB2:Sc (Below w1.heap.size w1 w2):=⟨by rw[<-hw2];exact Q3 (Below.refl _ _) _⟩
 have HO2:Sc (Own Xq 10 49 w1.heap.size w2 (.slice (some ⟨w1.heap.size,0,none⟩) 1 1) [Q5c]):=⟨by rw[<-hw2];exact Own.Jc (heap_alloc_new w1 _) (Nat.le_refl _) Z4 rfl (Nat.le_refl _) (by unfold maxLen;omega) rfl rfl⟩
 rw[hw2]
 clear hw2 hw1 hb8
 go_wp2_with fail
 go_loopg [14,15] nt (fun kx s14 s15 wr=>∃i:Nat,s15=.int .i64 i/\i<=nt/\nt - i<=kx/\Sc (Below w1.heap.size w1 wr)/\Sc (Own Xq 10 49 w1.heap.size wr s14 (Q5c::(tx.take i).map Cd)))
 case atStart=>exact⟨0,rfl,Nat.zero_le _,by omega,HB2,⟨by simpa using HO2.o⟩⟩
 case round=>
  obtain⟨i,rfl,hin,hg,HB,HR⟩:=hrel
  by_cases hlt:i<nt
  ·obtain⟨x,hx⟩:∃x,tx[i]? =some x:=⟨_,List.getElem?_eq_getElem (by rw[HNT.o];exact hlt)⟩
   obtain⟨gt,c2,he,_,hgl,_,_⟩:=HOT.o.form (by rw[HNT.o];omega)
   injection he with hA hn2 hC
   subst hA
   obtain⟨d0,d1,d2,d3⟩:=(HOT.o.below (Q5 HB1.o HB.o)).V6 hx
   have ld:gt<wr.heap.size:=World.block_lt_of_cell? _ _ d0
   obtain⟨Ar,nr,cr,rfl⟩:=HR.o.slice3
   obtain⟨L,hL⟩:∃L,Q5c::(tx.take i).map Cd=L:=⟨_,rfl⟩
   have HNX:Sc (Q5c::(tx.take (i+1)).map Cd=L++[Cd x]):=⟨by rw[List.take_add_one,hx,<-hL];simp⟩
   have HN:Sc (L.length=i+1):=⟨by rw[<-hL,List.length_cons,List.length_map,List.length_take,HNT.o,Nat.min_eq_left hin]⟩
   rw[hL]at HR
   have hnr:nr=i+1:=by rw[<-HN.o];exact HR.o.len
   subst hnr
   have HM1:Sc (i+1+1<=maxLen):=⟨by unfold maxLen;omega⟩
   have HM2:Sc ((i+1+1)*72<=140737488355328):=⟨by omega⟩
   have hil:(i:Int)<nt:=by omega
   have HX:=Q0 hx
   clear hx hL hn2 hC hgl
   go_upto_region 5 with fail
   have HLE:Sc (∀o,w1.heap.size<=(wr.drew.alloc o).heap.size):=⟨fun o=>by rw[World.size_alloc];exact Nat.le_succ_of_le HB.o.size⟩
   have HZA:Sc (∀o,(wr.drew.alloc o).heap.size=wr.heap.size+1):=⟨fun o=>by simp⟩
   have SK:Sc (∀W,Below w1.heap.size w1 W->W.cell? ⟨gt,i*4,none⟩=some (.int .i64 x.1)/\W.cell? ⟨gt,i*4+1,none⟩=some (.int .i64 x.2.1)/\W.cell? ⟨gt,i*4+2,none⟩=some (.int .i64 x.2.2.1)/\W.cell? ⟨gt,i*4+3,none⟩=some (.int .i64 x.2.2.2)):=⟨fun W hW=>(HOT.o.below (Q5 HB1.o hW)).V6 HX.o⟩
   have HBD:Sc (Below w1.heap.size w1 wr.drew):=⟨HB.o.drew⟩
   have HBA:Sc (∀o,Below w1.heap.size w1 (wr.drew.alloc o)):=⟨fun o=>HB.o.drew.alloc HB.o.size o⟩
   go_region_held3 (fun W=>W.cell? ⟨gt,i*4,none⟩=some (.int .i64 x.1)/\W.cell? ⟨gt,i*4+1,none⟩=some (.int .i64 x.2.1)/\W.cell? ⟨gt,i*4+2,none⟩=some (.int .i64 x.2.2.1)/\W.cell? ⟨gt,i*4+3,none⟩=some (.int .i64 x.2.2.2))
    (first|exact SK.o _ HBW.o|exact SK.o _ HBD.o|exact SK.o _ (HBA.o _)|exact SK.o _ HB.o|exact SK.o _ (Below.drew HBW.o))
    (first
     |(have hoa:=((HR.o.drew).rows HN.o).alloc (.cells (Xq (Cd x)).toArray 49);have hna:=World.news_of_block (heap_alloc_new wr.drew (.cells (Xq (Cd x)).toArray 49));refine step_append_lies (wr.drew.alloc (.cells (Xq (Cd x)).toArray 49)) (by rfl) (.tmp 31) (.tmp 53) 24 (by rfl) w1.heap.size 49 i0 (.agg #[.int .i64 0,.int .i64 0,.int .i64 0,.int .i64 0,.int .i64 0,.int .i64 0,.bool false,.bool false,.int .i64 0,.int .i64 0]) 10 72 Tryz.underlying24 hi hz0 hz1 hz2 rfl (by decide) _ (i+1) (flat Xq L) (by rfl) hoa ⟨wr.heap.size,0,none⟩ 1 1 (Xq (Cd x)) (by rfl) (by rfl) hna (Z4.one _) Nat.one_pos HM1.o HM2.o (HLE.o _) _ (HZA.o _) ?_;intro ga ca wa g1 g2 g3 g4;have g2':(wr.drew.alloc (.cells (Xq (Cd x)).toArray 49)).grownBy wa (Value.slice Ar (i+1) cr).ownBlock:=g2;have HBW:Sc (Below w1.heap.size w1 wa):=⟨(HB.o.drew.alloc HB.o.drew.size _).grown g2' (HLE.o _) (fun k hk=>(HR.o.lt k hk).1)⟩;have HOW:Sc (Own Xq 10 49 w1.heap.size wa (.slice (some ⟨ga,0,none⟩) (i+1+1) ca) (L++[(Cd x)])):=⟨Own.Qv g1 (by rw[List.length_append,HN.o];rfl) (by rw[Qc,Qm])⟩;clear g1 g2 g2' g3 g4 hoa hna))
   all_goals
    clear d0 d1 d2 d3 ld
    go_wp2_with fail
    go_roundg (nt - (i+1))
    case measure=>omega
    case rel=>exact⟨i+1,by go_num,by omega,Nat.le_refl _,HBW,⟨by rw[HNX.o];exact HOW.o⟩⟩
  ·obtain rfl:nt=i:=by omega
   obtain⟨wo,rfl⟩:∃wo,wo=wr:=⟨_,rfl⟩
   obtain⟨L1,hL1⟩:∃L1,Q5c::(tx.take nt).map Cd=L1:=⟨_,rfl⟩
   have HL1E:Sc (L1=Q5c::tx.map Cd):=⟨by rw[<-hL1,<-HNT.o,List.take_length]⟩
   have HL1N:Sc (L1.length=nt+1):=⟨by rw[HL1E.o,List.length_cons,List.length_map,HNT.o]⟩
   rw[hL1]at HR
   have HRO:=HR
   have HBO:=HB
   clear HR HB hg hin hlt hL1
   go_wp2_with fail
   go_loopg [14,16] ng (fun kx s14 s16 wr=>∃j:Nat,s16=.int .i64 j/\j<=ng/\ng - j<=kx/\Sc (Below w1.heap.size w1 wr)/\Sc (Own Xq 10 49 w1.heap.size wr s14 (L1++(tab.take j).map Cc)))
   case atStart=>exact⟨0,rfl,Nat.zero_le _,by omega,HBO,⟨by simpa using HRO.o⟩⟩
   case round=>
    obtain⟨j,rfl,hjn,hg,HB,HR⟩:=hrel
    by_cases hlt:j<ng
    ·obtain⟨y,hy⟩:∃y,tab[j]? =some y:=⟨_,List.getElem?_eq_getElem (by rw[HNG.o];exact hlt)⟩
     obtain⟨gg,c2,he,_,hgl,_,_⟩:=HOG.o.form (by rw[HNG.o];omega)
     injection he with hA hn2 hC
     subst hA
     obtain⟨d0,d1⟩:=(HOG.o.below (Q5 HB1.o HB.o)).Xb hy
     have ld:gg<wr.heap.size:=World.block_lt_of_cell? _ _ d0
     obtain⟨Ar,nr,cr,rfl⟩:=HR.o.slice3
     obtain⟨L,hL⟩:∃L,L1++(tab.take j).map Cc=L:=⟨_,rfl⟩
     have HNX:Sc (L1++(tab.take (j+1)).map Cc=L++[Cc y]):=⟨by rw[List.take_add_one,hy,<-hL];simp⟩
     have HN:Sc (L.length=nt+1+j):=⟨by rw[<-hL,List.length_append,List.length_map,List.length_take,HNG.o,Nat.min_eq_left hjn,HL1N.o]⟩
     rw[hL]at HR
     have hnr:nr=nt+1+j:=by rw[<-HN.o];exact HR.o.len
     subst hnr
     have HM1:Sc (nt+1+j+1<=maxLen):=⟨by unfold maxLen;omega⟩
     have HM2:Sc ((nt+1+j+1)*72<=140737488355328):=⟨by omega⟩
     have hjl:(j:Int)<ng:=by omega
     have HX:=Q0 hy
     clear hy hL hn2 hC hgl
     go_upto_region 9 with fail
     have HLE:Sc (∀o,w1.heap.size<=(wr.drew.alloc o).heap.size):=⟨fun o=>by rw[World.size_alloc];exact Nat.le_succ_of_le HB.o.size⟩
     have HZA:Sc (∀o,(wr.drew.alloc o).heap.size=wr.heap.size+1):=⟨fun o=>by simp⟩
     have SK:Sc (∀W,Below w1.heap.size w1 W->W.cell? ⟨gg,j*2,none⟩=some (.int .i64 y.1)/\W.cell? ⟨gg,j*2+1,none⟩=some (.int .i64 y.2)):=⟨fun W hW=>(HOG.o.below (Q5 HB1.o hW)).Xb HX.o⟩
     have HBD:Sc (Below w1.heap.size w1 wr.drew):=⟨HB.o.drew⟩
     have HBA:Sc (∀o,Below w1.heap.size w1 (wr.drew.alloc o)):=⟨fun o=>HB.o.drew.alloc HB.o.size o⟩
     go_region_held3 (fun W=>W.cell? ⟨gg,j*2,none⟩=some (.int .i64 y.1)/\W.cell? ⟨gg,j*2+1,none⟩=some (.int .i64 y.2))
      (first|exact SK.o _ HBW.o|exact SK.o _ HBD.o|exact SK.o _ (HBA.o _)|exact SK.o _ HB.o|exact SK.o _ (Below.drew HBW.o))
      (first
       |(have hoa:=((HR.o.drew).rows HN.o).alloc (.cells (Xq (Cc y)).toArray 49);have hna:=World.news_of_block (heap_alloc_new wr.drew (.cells (Xq (Cc y)).toArray 49));refine step_append_lies (wr.drew.alloc (.cells (Xq (Cc y)).toArray 49)) (by rfl) (.tmp 61) (.tmp 73) 24 (by rfl) w1.heap.size 49 i0 (.agg #[.int .i64 0,.int .i64 0,.int .i64 0,.int .i64 0,.int .i64 0,.int .i64 0,.bool false,.bool false,.int .i64 0,.int .i64 0]) 10 72 Tryz.underlying24 hi hz0 hz1 hz2 rfl (by decide) _ (nt+1+j) (flat Xq L) (by rfl) hoa ⟨wr.heap.size,0,none⟩ 1 1 (Xq (Cc y)) (by rfl) (by rfl) hna (Z4.one _) Nat.one_pos HM1.o HM2.o (HLE.o _) _ (HZA.o _) ?_;intro ga ca wa g1 g2 g3 g4;have g2':(wr.drew.alloc (.cells (Xq (Cc y)).toArray 49)).grownBy wa (Value.slice Ar (nt+1+j) cr).ownBlock:=g2;have HBW:Sc (Below w1.heap.size w1 wa):=⟨(HB.o.drew.alloc HB.o.drew.size _).grown g2' (HLE.o _) (fun k hk=>(HR.o.lt k hk).1)⟩;have HOW:Sc (Own Xq 10 49 w1.heap.size wa (.slice (some ⟨ga,0,none⟩) (nt+1+j+1) ca) (L++[(Cc y)])):=⟨Own.Qv g1 (by rw[List.length_append,HN.o];rfl) (by rw[Qc,Qm])⟩;clear g1 g2 g2' g3 g4 hoa hna))
     all_goals
      clear d0 d1 ld
      go_wp2_with fail
      go_roundg (ng - (j+1))
      case measure=>omega
      case rel=>exact⟨j+1,by go_num,by omega,Nat.le_refl _,HBW,⟨by rw[HNX.o];exact HOW.o⟩⟩
    ·obtain rfl:ng=j:=by omega
     obtain⟨wp,rfl⟩:∃wp,wp=wr:=⟨_,rfl⟩
     obtain⟨L,hL⟩:∃L,L1++(tab.take ng).map Cc=L:=⟨_,rfl⟩
     have HLE2:Sc (L++[Y0c most]=Vw tx tab most):=⟨by rw[<-hL,HL1E.o,<-HNG.o,List.take_length];unfold Vw C7;simp⟩
     have HN:Sc (L.length=nt+1+ng):=⟨by rw[<-hL,List.length_append,List.length_map,List.length_take,HNG.o,Nat.min_self,HL1N.o]⟩
     rw[hL]at HR
     obtain⟨Ar,nr,cr,rfl⟩:=HR.o.slice3
     have hnr:nr=nt+1+ng:=by rw[<-HN.o];exact HR.o.len
     subst hnr
     have HB4:=HB
     have HR4:=HR
     have hle4:w1.heap.size<=wp.heap.size:=HB.o.size
     clear HRO HBO HR HB hg hjn hlt hL
     go_wp2_with (at_builtin;go_loud (refine wpList_append_own_at _ rfl (.tmp 75) (.tmp 78) 24 rfl w1.heap.size 49 i0 (.agg #[.int .i64 0,.int .i64 0,.int .i64 0,.int .i64 0,.int .i64 0,.int .i64 0,.bool false,.bool false,.int .i64 0,.int .i64 0]) 10 72 Tryz.underlying24 hi hz0 hz1 hz2 rfl (by decide) _ (nt+1+ng) (flat Xq L) rfl ((HR4.o.rows HN.o).alloc _) _ 1 1 (Xq (Y0c most)) rfl rfl ?c1 ?c2 ?c3 ?c4 ?c5 ?_))
     case c1=>exact World.news_of_block (heap_alloc_new _ _)
     case c2=>exact Z4.one _
     case c3=>unfold maxLen;omega
     case c4=>omega
     case c5=>simp;omega
     intro v1 w4 h1 h2 h3 h4
     obtain⟨R,hR⟩:∃R,Vw tx tab most=R:=⟨_,rfl⟩
     have HRE:=Q0 hR
     have HRR:Sc (Own Xq 10 49 w1.heap.size w4 v1 R):=⟨by
      rw[<-hR,<-HLE2.o]
      unfold Own
      rw[Qc,Qm,List.length_append,HN.o]
      exact h1⟩
     have HB5:Sc (Below w1.heap.size w1 w4):=⟨(HB4.o.alloc HB4.o.size _).grown h2 (by rw[World.size_alloc];omega) (fun k hk=>(HR4.o.lt k hk).1)⟩
     have HRN:Sc (R.length=nt+ng+2):=⟨by rw[<-hR,<-HLE2.o,List.length_append,HN.o];simp;omega⟩
     clear h1 h2 h3 h4 hR hle4
     obtain⟨m,hm⟩:∃m,nt+ng+2=m:=⟨_,rfl⟩
     have hm2:1<=m/\m<=300:=by omega
     rw[hm]at HRN
     obtain⟨gR,cR,hv1,_,_,_,_⟩:=HRR.o.form (by rw[HRN.o];omega)
     subst hv1
     rw[HRN.o]at HRR ⊢
     have HNO:Sc (∀q,w.heap.size<=q->¬(Q1 S).U q):=⟨fun q hq hu=>by have:=(Q1 S).lt HZ0.o _ hu;omega⟩
     have HB04:Sc (Below w.heap.size w w4):=⟨Q5 HB1.o HB5.o⟩
     have HM8:Sc (w4.heap[b8]? =some (.cells (Zy ck pn bn fn) 91 (0,0))):=⟨up HB5.o H2.o.1⟩
     have HM12:Sc (w4.heap[b8+1]? =some (.cells zM 91 (0,0))):=⟨up HB5.o H2.o.2⟩
     have HSZ:Sc (w1.heap.size<=gR/\gR<w4.heap.size):=⟨HRR.o.lt gR rfl⟩
     have HMM:=Q0 hm
     clear hm hnt0 hng0
     go_wp2_with fail
     go_loopg [13,17,18,19,20] m (fun kx s13 s17 s18 s19 s20 wr=>∃(i:Nat) (at_:Int) (S3:WG),s13=.int .i64 0/\s17=.int .i64 at_/\s18=.int .i64 i/\i<=m/\m - i<=kx/\Sc ((i=0/\at_=0)\/(0<i/\at_=(S.P.L.length:Int)+1/\S.P.L.length<6*S.P.bl))/\Sc (S3.T=S.T/\S3.f=S.f/\S3.k=S.k/\S3.P={S.P with Js:=S3.P.Js,L:=S.P.L++R.take i})/\Sc (Q8 (Q1 S) (Q1 S3) w4 wr)/\Sc (DlK S S3 w4 wr))
     case atStart=>exact⟨0,0,S,rfl,rfl,rfl,Nat.zero_le _,by omega,⟨.inl ⟨rfl,rfl⟩⟩,⟨rfl,rfl,rfl,by rw[List.take_zero,List.append_nil]⟩,⟨Part.same (A:=Q1 S) ((Q1 S).bel HZ0.o HB04.o) (Below.refl _ _)⟩,⟨DlK.same S (Below.refl _ _)⟩⟩
     case round=>
      obtain⟨i,at_,S3,rfl,rfl,rfl,him,hg,HAT,HS3,HL,HDK⟩:=hrel
      have HRW:Sc (Own Xq 10 49 0 wr (.slice (some ⟨gR,0,none⟩) m cR) R):=⟨(HRR.o.mono (Nat.zero_le _)).kp HL.o.2.1 (fun q hq=>HNO.o q (by have:=(HRR.o.lt q hq).1;have:=HBS.o;omega))⟩
      have HSL:Sc (S3.P.L=S.P.L++R.take i/\S3.P.bl=S.P.bl/\S3.P.pages=S.P.pages/\S3.P.D.vm=S.P.D.vm/\S3.P.O=S.P.O/\S3.P.pv=S.P.pv/\S3.T.lb=lb/\S3.T.db=db):=⟨by
       have hp:=HS3.o.2.2.2
       refine⟨by rw[hp],by rw[hp],by rw[hp],by rw[hp],by rw[hp],by rw[hp],by rw[HS3.o.1];exact HE.o.2.2.2,by rw[HS3.o.1];exact HE.o.2.2.1⟩⟩
      have HABS:Sc (S3.abs={S.abs with L:=S.P.L++R.take i}):=⟨Y6z HS3.o.1 HS3.o.2.2.2⟩
      have HLW:Sc (∀q,w.heap.size<=q->q<w4.heap.size->¬(Q1 S3).U q):=⟨fun q h1 h2 hu=>(HL.o.2.2 q hu).elim (HNO.o q h1) (fun hn=>by omega)⟩
      by_cases hlt:i<m
      ·obtain⟨r,hx⟩:∃r,R[i]? =some r:=⟨_,List.getElem?_eq_getElem (by rw[HRN.o];exact hlt)⟩
       obtain⟨d0,d1,d2,d3,d4,d5,d6,d7,d8,d9⟩:=HRW.o.Qe hx
       have ld:gR<wr.heap.size:=World.block_lt_of_cell? _ _ d0
       have hil:(i:Int)<m:=by omega
       have HTK:Sc (R.take (i+1)=R.take i++[r]):=⟨by rw[List.take_add_one,hx];rfl⟩
       have CAP:Sc (Calls Tryz.prog 26 #[.pointer (some ⟨lb,0,none⟩),.agg (Qe r)] wr fun e w'=>∃a c:Int,e=.returned (.tuple #[.int .i64 a,.int .i64 c])/\X7c S3 r a c wr w'):=⟨by
        have:=Y0w wr S3 r HL.o.1
        rw[HSL.o.2.2.2.2.2.2.1]at this
        exact this⟩
       clear hx
       go_wp2_with fail
       refine CAP.o.mono ?_
       rintro e w5 ⟨a5,e5,rfl,ha5⟩
       clear d0 d1 d2 d3 d4 d5 d6 d7 d8 d9 ld
       rcases ha5 with ⟨hgl,rfl,rfl,row5,hl5,hd5⟩|⟨hgl,rfl,hc0,row5,hl5,hd5⟩
       ·have HDK5:=Q0 (HDK.o.trans hd5)
        have HL5:=Q0 (Part.trans HL.o hl5)
        have HS4:Sc ((S3.Xg row5 (S3.P.L++[r])).T=S.T/\(S3.Xg row5 (S3.P.L++[r])).f=S.f/\(S3.Xg row5 (S3.P.L++[r])).k=S.k/\(S3.Xg row5 (S3.P.L++[r])).P={S.P with Js:=(S3.Xg row5 (S3.P.L++[r])).P.Js,L:=S.P.L++R.take (i+1)}):=⟨HS3.o.1,HS3.o.2.1,HS3.o.2.2.1,by
         have hp:=HS3.o.2.2.2
         show({S3.P with Js:=row5,L:=S3.P.L++[r]}:X9)={S.P with Js:=row5,L:=S.P.L++R.take (i+1)}
         rw[HTK.o,HSL.o.1,List.append_assoc,hp]⟩
        have HLL:Sc (S3.P.L.length=S.P.L.length+i/\S.P.L.length<6*S.P.bl):=⟨by
         have h1:S3.P.L.length=S.P.L.length+i:=by rw[HSL.o.1,List.length_append,List.length_take,HRN.o,Nat.min_eq_left him]
         have h2:=hgl.2
         rw[HSL.o.2.1]at h2
         exact⟨h1,by omega⟩⟩
        obtain⟨lsn,hlsn⟩:∃lsn,(S3.P.L.length:Int)+1=lsn:=⟨_,rfl⟩
        have HLSN:=Q0 hlsn
        rw[hlsn]
        clear hgl hl5 hd5 hlsn
        by_cases hi0:i=0
        ·have e1:((i:Int)==0)=true:=by simp[hi0]
         have HI0:=Q0 hi0
         have hi0':(i:Int)=0:=by omega
         go_wp2_with fail
         go_roundg (m - (i+1))
         case measure=>omega
         case rel=>exact⟨i+1,lsn,S3.Xg row5 (S3.P.L++[r]),rfl,rfl,by go_num,by omega,Nat.le_refl _,⟨.inr ⟨by omega,by have:=HLSN.o;have:=HLL.o.1;omega,HLL.o.2⟩⟩,HS4,HL5,HDK5⟩
        ·have e1:((i:Int)==0)=false:=by simp;omega
         have HI0:=Q0 hi0
         have hi0':¬(i:Int)=0:=by omega
         go_wp2_with fail
         go_roundg (m - (i+1))
         case measure=>omega
         case rel=>exact⟨i+1,at_,S3.Xg row5 (S3.P.L++[r]),rfl,rfl,by go_num,by omega,Nat.le_refl _,⟨.inr ⟨by omega,by rcases HAT.o with ⟨h1,_⟩|⟨_,h1,_⟩;exact absurd h1 HI0.o;exact h1,HLL.o.2⟩⟩,HS4,HL5,HDK5⟩
       ·have e0:(e5 !=0)=true:=by simp[hc0]
        have HDK5:=Q0 (HDK.o.trans hd5)
        have HL5:=Q0 (Part.trans HL.o hl5)
        have HU5:Sc (¬(Q1 (S3.Xg row5 S3.P.L)).U (b8+1)):=⟨fun hu=>(HL5.o.2.2 _ hu).elim (HNO.o _ (by have:=HB8.o;omega)) (fun hn=>by have:=Q6 HM12.o;omega)⟩
        obtain⟨m0,m1,m2,m3,m4,m5,m6,_,_,_,_,_,_,_,lm⟩:=Xx (HL5.o.2.1.at HM8.o (HNO.o _ (by have:=HB8.o;omega)))
        obtain⟨z0,z1,z2,z3,z4,z5,z6,y0,y1,y2,y3,y4,y5,y6,lz⟩:=Xx (HL5.o.2.1.at HM12.o (HNO.o _ (by have:=HB8.o;omega)))
        have hne:¬b8+1=b8:=by omega
        clear hgl hc0 hl5 hd5
        go_wp2
        refine bodyPost_ret (v:=.tuple #[X0z ck pn bn fn,.int .i64 e5]) (by simp[results,Tryz.results109,go_sem,z0,z1,z2,z3,z4,z5,z6]) rfl ⟨ck,e5,S3.Xg row5 S3.P.L,rfl,?_,?_,?_⟩
        ·have hl:=Part.from_ HL5.o HB04.o
         have hu:=HU5.o
         have e8:=HB8.o
         repeat (first|with_reducible exact hl|with_reducible refine Part.drew ?_|with_reducible refine Part.Y9 ?_ (by omega) hu)
        ·refine⟨HS3.o.1,HS3.o.2.1,HS3.o.2.2.1,HSL.o.2.2.1,HSL.o.2.1,Nat.le_of_eq HSL.o.2.2.2.1,?_⟩
         have hcke:S3.abs.ck=ck:=by show S3.T.ck=ck;rw[HS3.o.1];exact HE.o.1.2.2.2
         show Ok S.P.pages (6*S.P.bl) {S3.abs with ck:=ck}
         rw[<-hcke]
         show Ok S.P.pages (6*S.P.bl) S3.abs
         rw[HABS.o,<-HRE.o]
         have:=Y5r HZ0.o HOK.o (i:=i) (by rcases HAT.o with ⟨h1,_⟩|⟨_,_,h1⟩;exact .inl h1;exact .inr h1)
         rw[HE.o.1.1,HE.o.1.2.1,HE.o.1.2.2.1]at this
         exact this
        ·have hd:=DlK.from_ HDK5.o HB04.o
         have e8:=HB8.o
         repeat (first|with_reducible exact hd|with_reducible refine DlK.drew ?_|with_reducible refine DlK.Y9 ?_ (by omega))
      ·obtain rfl:m=i:=by omega
       have HTK:Sc (R.take m=R):=⟨by rw[<-HRN.o,List.take_length]⟩
       have CFL:Sc (Calls Tryz.prog 107 #[.pointer (some ⟨lb,0,none⟩)] wr fun e w'=>e=.returned (.int .i64 0)/\∃P',(Q8 (Q1 S3) (Q1 {S3 with P:=P'}) wr w'/\DlK S3 {S3 with P:=P'} wr w')/\G5 S3.P P'/\P'.O=S3.P.O/\P'.D.vm<=S3.P.D.vm):=⟨by
        have:=Q7b wr S3 HL.o.1 (by rw[HSL.o.2.2.2.1];have:=HC.o.vm;have:=HV.o;omega)
        rw[HSL.o.2.2.2.2.2.2.1]at this
        exact this⟩
       clear hlt hg him
       go_wp2_with fail
       refine CFL.o.mono ?_
       rintro e w5 ⟨rfl,P8,⟨hl8,hd8⟩,hs8,ho8,hv8⟩
       obtain⟨S4,hS4⟩:∃S4:WG,{S3 with P:=P8}=S4:=⟨_,rfl⟩
       have HS4:Sc (S4.T=S3.T/\S4.f=S3.f/\S4.k=S3.k/\G5 S3.P S4.P/\S4.P.O=S3.P.O/\S4.P.D.vm<=S3.P.D.vm):=⟨by rw[<-hS4];exact⟨rfl,rfl,rfl,hs8,ho8,hv8⟩⟩
       rw[hS4]at hl8 hd8
       have HDK5:=Q0 (HDK.o.trans hd8)
       have HL5:=Q0 (Part.trans HL.o hl8)
       obtain⟨m0,m1,m2,m3,m4,m5,m6,_,_,_,_,_,_,_,lm⟩:=Xx (HL5.o.2.1.at HM8.o (HNO.o _ (by have:=HB8.o;omega)))
       clear hS4 hl8 hd8 hs8 ho8 hv8
       go_upto_region 24 with fail
       obtain⟨w6,hw6⟩:∃w6,w5.alloc (.cells (Zy ck pn bn fn) 91)=w6:=⟨_,rfl⟩
       obtain⟨b22,hb22⟩:∃b22,w5.heap.size=b22:=⟨_,rfl⟩
       have HL6:Sc (Q8 (Q1 S) (Q1 S4) w4 w6):=⟨by rw[<-hw6];exact Part.Q4p HL5.o _⟩
       have HDK6:Sc (DlK S S4 w4 w6):=⟨by rw[<-hw6];exact DlK.Q4p HDK5.o _⟩
       have HN6:Sc (w6.heap[b22]? =some (.cells (Zy ck pn bn fn) 91 (0,0))):=⟨by rw[<-hw6,<-hb22];exact heap_alloc_new _ _⟩
       have HU6:Sc (¬(Q1 S4).U b22/\w4.heap.size<=b22/\¬b8+1=b22):=⟨fun hu=>by have:=(Q1 S4).lt HL5.o.1 _ hu;omega,by rw[<-hb22];exact HL5.o.2.1.size,by have:=Q6 HM12.o;have:=HL5.o.2.1.size;omega⟩
       rw[hw6]
       try rw[hb22]
       clear hw6 hb22 m0 m1 m2 m3 m4 m5 m6 lm
       obtain⟨n0,n1,n2,n3,n4,n5,n6,f0,f1,f2,f3,f4,f5,f6,ln⟩:=Xx HN6.o
       go_upto_region 25 with fail
       obtain⟨w7,hw7⟩:∃w7,w6.setCell ⟨b22,3,none⟩ (.int .i64 at_)=w7:=⟨_,rfl⟩
       have HL7:Sc (Q8 (Q1 S) (Q1 S4) w4 w7):=⟨by rw[<-hw7];exact Part.Y9 HL6.o HU6.o.2.1 HU6.o.1⟩
       have HDK7:Sc (DlK S S4 w4 w7):=⟨by rw[<-hw7];exact DlK.Y9 HDK6.o HU6.o.2.1⟩
       have HN7:Sc (w7.heap[b22]? =some (.cells (Zy at_ pn bn fn) 91 (0,0))):=⟨by rw[<-hw7];exact X1e HN6.o⟩
       rw[hw7]
       clear hw7 n0 n1 n2 n3 n4 n5 n6 f0 f1 f2 f3 f4 f5 f6 ln
       have HATV:Sc (at_=(S.P.L.length:Int)+1/\S.P.L.length<6*S.P.bl):=⟨by rcases HAT.o with ⟨h1,_⟩|⟨_,h1,h2⟩;omega;exact⟨h1,h2⟩⟩
       have CMS:Sc (Calls Tryz.prog 49 #[.pointer (some ⟨db,0,none⟩),.agg (Zy at_ pn bn fn)] w7 fun e w'=>e=.returned (.int .i64 0)/\∃P',(Q8 (Q1 S4) (Q1 {S4 with P:=P'}) w7 w'/\DlK S4 {S4 with P:=P'} w7 w')/\Calm S4.P P' 0/\P'.O=S4.P.O):=⟨by
        have hpg:=HZ0.o.X2.plain.pg
        have hbl:=HZ0.o.X2.plain.blk
        have e1:=HZ0.o.pg
        have e2:=HZ0.o.pbl
        have g1:=HE.o.2.1
        have g2:=HATV.o
        have g3:=HFR.o
        have:=X3y w7 S4 at_ pn bn fn HL7.o.1 ⟨by omega,by omega,by omega,by omega,by omega,by omega,by omega,by omega⟩ (by have:=HS4.o.2.2.2.2.2;rw[HSL.o.2.2.2.1]at this;have:=HC.o.vm;have:=HV.o;omega)
        rw[show S4.T.db=db from by rw[HS4.o.1];exact HSL.o.2.2.2.2.2.2.2]at this
        exact this⟩
       obtain⟨n0,n1,n2,n3,n4,n5,n6,f0,f1,f2,f3,f4,f5,f6,ln⟩:=Xx HN7.o
       go_wp2_with fail
       refine CMS.o.mono ?_
       rintro e w8 ⟨rfl,P9,⟨hl9,hd9⟩,hc9,ho9⟩
       obtain⟨S5,hS5⟩:∃S5:WG,{S4 with P:=P9}=S5:=⟨_,rfl⟩
       have HS5:Sc (S5.T=S4.T/\S5.f=S4.f/\S5.k=S4.k/\Calm S4.P S5.P 0/\S5.P.O=S4.P.O):=⟨by rw[<-hS5];exact⟨rfl,rfl,rfl,hc9,ho9⟩⟩
       rw[hS5]at hl9 hd9
       have HDK8:=Q0 (HDK7.o.trans hd9)
       have HL8:=Q0 (Part.trans HL7.o hl9)
       have HU8:Sc (¬(Q1 S5).U (b8+1)):=⟨fun hu=>(HL8.o.2.2 _ hu).elim (HNO.o _ (by have:=HB8.o;omega)) (fun hn=>by have:=Q6 HM12.o;omega)⟩
       have hn8:=hl9.2.1.at HN7.o HU6.o.1
       clear n0 n1 n2 n3 n4 n5 n6 f0 f1 f2 f3 f4 f5 f6 ln
       obtain⟨n0,n1,n2,n3,n4,n5,n6,f0,f1,f2,f3,f4,f5,f6,ln⟩:=Xx hn8
       obtain⟨z0,z1,z2,z3,z4,z5,z6,y0,y1,y2,y3,y4,y5,y6,lz⟩:=Xx (HL8.o.2.1.at HM12.o (HNO.o _ (by have:=HB8.o;omega)))
       have hne:¬b8+1=b22:=HU6.o.2.2
       clear hS5 hl9 hd9 hc9 ho9 hn8
       go_wp2
       refine bodyPost_ret (v:=.tuple #[X0z at_ pn bn fn,.int .i64 0]) (by simp[results,Tryz.results109,go_sem,z0,z1,z2,z3,z4,z5,z6]) rfl ⟨at_,0,S5,rfl,?_,?_,?_⟩
       ·have hl:=Part.from_ HL8.o HB04.o
        have hu:=HU8.o
        have e8:=HB8.o
        repeat (first|with_reducible exact hl|with_reducible refine Part.drew ?_|with_reducible refine Part.Y9 ?_ (by omega) hu)
       ·have h4:=HS4.o
        have h5:=HS5.o
        have h3:=HS3.o
        have hsl:=HSL.o
        have sm:=h4.2.2.2.1.trans h5.2.2.2.1.same
        refine⟨h5.1.trans (h4.1.trans h3.1),h5.2.1.trans (h4.2.1.trans h3.2.1),h5.2.2.1.trans (h4.2.2.1.trans h3.2.2.1),sm.pages.trans hsl.2.2.1,sm.bl.trans hsl.2.1,by have:=h5.2.2.2.1.vm;have:=h4.2.2.2.2.2;omega,?_⟩
        have hA:({S5.abs with ck:=at_}:Abs)={S.abs with L:=S.P.L++Vw S.T.tx S.P.O.tab S.T.most,ck:=(S.P.L.length:Int)+1}:=by
         unfold WG.abs
         show(⟨S5.P.L,S5.T.tx,S5.T.most,S5.T.lk,S5.T.X1,S5.P.pv,S5.P.O.tab,at_⟩:Abs)=⟨S.P.L++Vw S.T.tx S.P.O.tab S.T.most,S.T.tx,S.T.most,S.T.lk,S.T.X1,S.P.pv,S.P.O.tab,(S.P.L.length:Int)+1⟩
         rw[h5.1,h4.1,h3.1,sm.L,sm.pv,h5.2.2.2.2,h4.2.2.2.2.1,hsl.1,hsl.2.2.2.2.1,hsl.2.2.2.2.2.1,HTK.o,HE.o.1.1,HE.o.1.2.1,HE.o.1.2.2.1,HRE.o,HATV.o.1]
        rw[hA]
        have hpg:=HZ0.o.X2.plain.pg
        have hbl:=HZ0.o.X2.plain.blk
        obtain⟨hv,ha⟩:=HOK.o.live.resolve_left (by show ¬(6*S.P.bl<=S.P.L.length);have:=HATV.o.2;omega)
        exact Ok.Xe HOK.o.Yc hv ha (by omega) (by show S.P.L.length<=1000;have:=HATV.o.2;omega)
       ·have hd:=DlK.from_ HDK8.o HB04.o
        have e8:=HB8.o
        repeat (first|with_reducible exact hd|with_reducible refine DlK.drew ?_|with_reducible refine DlK.Y9 ?_ (by omega))
def Xm.pre(T:Xm)(vk vw vt:Value):List Value:=T.head++([vk,vw,vt,.int .i64 T.most]++(.pointer (some ⟨T.spb,0,none⟩)::(T.X1.map (Value.int .i64 ·)++T.sav.map (·.v))))
def Xm.ms(T:Xm):List Value:=[.int .i64 1,.int .i64 0,.int .i64 1,.int .i64 T.ck,.int .i64 T.pages,.int .i64 T.bl,.int .i64 T.Xf]
theorem Q7x(T:Xm)(vk vw vt:Value):T.cells vk vw vt=(T.pre vk vw vt++T.ms).toArray:=by
 unfold Xm.cells Xm.pre Xm.ms Xm.tail
 simp
theorem Q9x{T:Xm}{vk vw vt:Value}(h1:T.X1.length=8)(h2:T.sav.length=8):(T.pre vk vw vt).length=28:=by
 unfold Xm.pre Xm.head
 simp[h1,h2]
theorem Vr.X5k{T:Xm}{w:World}(h:Vr T w){j:Nat}{x:Value}(hj:T.ms[j]? =some x):w.cell? ⟨T.sb,28+j,none⟩=some x:=by
 obtain⟨vk,vw,vt,_,_,_,hc,_,_,_⟩:=h.val
 simp only[World.cell?,hc]
 have e:(T.cells vk vw vt)[28+j]? =some x:=by
  rw[Q7x,List.getElem?_toArray,List.getElem?_append_right (by rw[Q9x h.nm h.ns];omega),Q9x h.nm h.ns,show 28+j - 28=j from by omega]
  exact hj
 rw[e]
 simp
theorem Vr.X5i{T:Xm}{w:World}(h:Vr T w):w.cell? ⟨T.sb,28,none⟩=some (.int .i64 1)/\w.cell? ⟨T.sb,29,none⟩=some (.int .i64 0)/\w.cell? ⟨T.sb,30,none⟩=some (.int .i64 1)/\w.cell? ⟨T.sb,31,none⟩=some (.int .i64 T.ck)/\w.cell? ⟨T.sb,32,none⟩=some (.int .i64 T.pages)/\w.cell? ⟨T.sb,33,none⟩=some (.int .i64 T.bl)/\w.cell? ⟨T.sb,34,none⟩=some (.int .i64 T.Xf):=
 ⟨h.X5k (j:=0) rfl,h.X5k (j:=1) rfl,h.X5k (j:=2) rfl,h.X5k (j:=3) rfl,h.X5k (j:=4) rfl,h.X5k (j:=5) rfl,h.X5k (j:=6) rfl⟩
theorem Oy{w:World}{b:Nat}{t:TypeId}{p m:List Value}(hl:p.length=28)(h:w.heap[b]? =some (.cells (p++m).toArray t (0,0)))(j:Nat)(x:Value):(w.setCell ⟨b,28+j,none⟩ x).heap[b]? =some (.cells (p++m.set j x).toArray t (0,0)):=by
 rw[Qn h (28+j) _]
 congr 2
 apply Array.ext'
 simp only[Array.toList_setIfInBounds]
 rw[List.set_append_right _ _ (by omega),hl,show 28+j - 28=j from by omega]
def WG.Y7a(S:WG)(ck':Int):WG:={S with T:={S.T with ck:=ck'}}
theorem Qh.Y7x{S:WG}{w:World}(h:Qh S w)(ck':Int):Q8 (Q1 S) (Q1 (S.Y7a ck')) w (((((((w.setCell ⟨S.T.sb,28,none⟩ (.int .i64 1)).setCell ⟨S.T.sb,29,none⟩ (.int .i64 0)).setCell ⟨S.T.sb,30,none⟩ (.int .i64 1)).setCell ⟨S.T.sb,31,none⟩ (.int .i64 ck')).setCell ⟨S.T.sb,32,none⟩ (.int .i64 S.T.pages)).setCell ⟨S.T.sb,33,none⟩ (.int .i64 S.T.bl)).setCell ⟨S.T.sb,34,none⟩ (.int .i64 S.T.Xf)):=by
 have hk:Kp (fun q=>q=S.T.sb) w (((((((w.setCell ⟨S.T.sb,28,none⟩ (.int .i64 1)).setCell ⟨S.T.sb,29,none⟩ (.int .i64 0)).setCell ⟨S.T.sb,30,none⟩ (.int .i64 1)).setCell ⟨S.T.sb,31,none⟩ (.int .i64 ck')).setCell ⟨S.T.sb,32,none⟩ (.int .i64 S.T.pages)).setCell ⟨S.T.sb,33,none⟩ (.int .i64 S.T.bl)).setCell ⟨S.T.sb,34,none⟩ (.int .i64 S.T.Xf)):=(((((((Kp.Vd (S:=fun q=>q=S.T.sb)).put (b:=S.T.sb) rfl _).put (b:=S.T.sb) rfl _).put (b:=S.T.sb) rfl _).put (b:=S.T.sb) rfl _).put (b:=S.T.sb) rfl _).put (b:=S.T.sb) rfl _).put (b:=S.T.sb) rfl _
 refine h.Jn ⟨h.sto.X5z rfl ⟨rfl,rfl,rfl,rfl,rfl,rfl⟩ hk (fun vk vw vt hc=> ?_) h.sto.nm h.sto.ns (fun x hx=>⟨(h.sto.sv x hx).kp hk (fun q hq he=>(h.sto.far x hx q hq).1 he),h.sto.far x hx⟩),hk.mono (fun q hq=> .inl hq),fun q hq=> .inl hq⟩ (Ys S.T)
 rw[Q7x]at hc ⊢
 have hl:=Q9x (vk:=vk) (vw:=vw) (vt:=vt) h.sto.nm h.sto.ns
 exact Oy hl (Oy hl (Oy hl (Oy hl (Oy hl (Oy hl (Oy hl hc 0 (.int .i64 1)) 1 (.int .i64 0)) 2 (.int .i64 1)) 3 (.int .i64 ck')) 4 (.int .i64 S.T.pages)) 5 (.int .i64 S.T.bl)) 6 (.int .i64 S.T.Xf)
theorem Zf{S:Nat->Prop}{w w':World}{b i:Nat}{v:Value}(hk:Kp S w w')(hc:w.cell? ⟨b,i,none⟩=some v)(hn:¬S b):w'.cell? ⟨b,i,none⟩=some v:=by
 have:=hk.block b (World.block_lt_of_cell? _ _ hc) hn
 unfold World.cell? at hc ⊢
 rw[this]
 exact hc
theorem Qh.rows{S:WG}{w:World}(h:Qh S w):∃At ct Ag cg,Own Qg 4 58 0 w (.slice At S.T.tx.length ct) S.T.tx/\Own Qj 2 60 0 w (.slice Ag S.P.O.tab.length cg) S.P.O.tab/\w.cell? ⟨S.T.sb,9,none⟩=some (.slice At S.T.tx.length ct)/\w.cell? ⟨S.T.pb,4,none⟩=some (.slice Ag S.P.O.tab.length cg):=by
 obtain⟨vk,vw,vt,_,_,_,hc,_,_,o3⟩:=h.sto.val
 obtain⟨At,ct,rfl,_,_⟩:=o3.slice
 obtain⟨vf,hvf,hof,ht⟩:=h.X2.own.val
 obtain⟨⟨v,hv,hc4,ho⟩,_,_⟩:=ht
 obtain⟨Ag,cg,rfl,_,_⟩:=ho.slice
 refine⟨At,ct,Ag,cg,o3,ho,?_,?_⟩
 ·simp[World.cell?,hc,Xm.cells,Xm.head]
 ·rw[h.pp]
  have hc2:=hc4.at
  have hb:=h.X2.db
  simp[World.cell?,hc2,Dm.pre,hb]
theorem Qh.far{S:WG}{w:World}(h:Qh S w):¬S.P.dl.U S.T.sb/\¬S.P.dl.U S.T.pb/\S.T.sb≠S.T.spb/\S.T.pb≠S.T.spb:=
 ⟨fun hu=>h.a1 _ (.inl hu) (.inl rfl),fun hu=>h.X2.apart _ hu (.inl h.pp),fun he=>h.a3 _ (.inl rfl) he,fun he=>h.a2 _ (.inr (.inl h.pp)) he⟩
end Go.Proofs.YtoapihepdallbaaGreatDoor
