import Derived.Test.YtoapihepdallbaaGreatDoorP26
namespace Go.Proofs.YtoapihepdallbaaGreatDoor
open Go.RowKit
def Xv(G:Ug)(lb:Nat)(row:Option Nat)(L:List Q9)(bs:Int):Part where
 P:=fun w=>Jb G w lb row L bs
 U:=fun q=>q=lb\/some q=row
 kp:=fun h hk hn=>h.kp hk (hn _ (.inl rfl)) (fun q hq=>hn q (.inr hq.symm))
 lt:=fun {w} h q hq=>by
  rcases hq with rfl|hq
  ·exact h.lt
  ·exact h.Gt q hq.symm
theorem J7{w:World}{b:Nat}{x0 x1 x2 x3 x4 x5 x6:Value}{t:TypeId}(h:w.heap[b]? =some (.cells #[x0,x1,x2,x3,x4,x5,x6] t (0,0))):
  w.cell? ⟨b,0,none⟩=some x0/\w.cell? ⟨b,1,none⟩=some x1/\w.cell? ⟨b,3,none⟩=some x3/\w.cell? ⟨b,4,none⟩=some x4/\w.cell? ⟨b,5,none⟩=some x5/\w.cell? ⟨b,6,none⟩=some x6/\b<w.heap.size/\w.frozen? ⟨b,6,none⟩=false:=
 ⟨by simp[World.cell?,h],by simp[World.cell?,h],by simp[World.cell?,h],by simp[World.cell?,h],by simp[World.cell?,h],by simp[World.cell?,h],Q6 h,Q2 h 6⟩
theorem Own.rdR{w:World}{e:TypeId}{base g n cap:Nat}{L:List Q9}(h:Own Xq 10 e base w (.slice (some ⟨g,0,none⟩) n cap) L)(lo m:Nat):RdR w g (lo*10) ((L.drop lo).take m):=fun k r hr=>by
 have hk:k<m:=by
  have:=(List.getElem?_eq_some_iff.1 hr).1
  rw[List.length_take]at this
  omega
 rw[List.getElem?_take_of_lt hk,List.getElem?_drop]at hr
 have:=h.Qe hr
 rw[show lo*10+k*10=(lo+k)*10 from by omega]
 exact this
structure Y3z(D:Qw)(G:Ug)(lb:Nat)(row:Option Nat)(L:List Q9)(w:World):Prop where
 V8:Zb D w
 log:Jb G w lb row L 0
 db:G.db=D.db
 apart:(Qo D).apart (Xv G lb row L 0)
structure Ze(D:Qw)(G:Ug)(lb:Nat)(row:Option Nat)(L:List Q9)(fi:Nat)(w:World)(D1:Qw)(wr:World):Prop where
 leaves:Q8 (Qo D) (Qo D1) w wr
 db:D1.db=D.db
 same:∀j,j<fi->D1.c[j]? =D.c[j]?
 len:D1.c.length=D.c.length
theorem Qw.Yh(D:Qw):D.c.length=D.s.length:=by unfold Qw.c;exact List.length_map _
theorem Zb.vm1{D:Qw}{w:World}(h:Zb D w)(hn:1<=D.s.length):1<=D.vm:=by
 obtain⟨s,hs⟩:∃s,D.s[0]? =some s:=⟨_,List.getElem?_eq_getElem (by omega)⟩
 have:=h.Q5u s (List.mem_of_getElem? hs)
 have:=(h.sec hs).2.some_
 omega
theorem Ze.start{D:Qw}{G:Ug}{lb:Nat}{row:Option Nat}{L:List Q9}{fi:Nat}{w:World}(h:Zb D w):Ze D G lb row L fi w D w:=⟨Part.same (A:=Qo D) h (Below.refl _ _),rfl,fun _ _=>rfl,rfl⟩
theorem Ze.bel{D D1:Qw}{G:Ug}{lb:Nat}{row:Option Nat}{L:List Q9}{fi:Nat}{w wr w':World}(h:Ze D G lb row L fi w D1 wr)(hb:Below wr.heap.size wr w'):Ze D G lb row L fi w D1 w':=
 ⟨Part.Qs h.leaves hb,h.db,h.same,h.len⟩
theorem Ze.log{D D1:Qw}{G:Ug}{lb:Nat}{row:Option Nat}{L:List Q9}{fi:Nat}{w wr:World}(h:Ze D G lb row L fi w D1 wr)(hl:Y3z D G lb row L w):Jb G wr lb row L 0/\(Qo D1).apart (Xv G lb row L 0):=
 Part.Um (C:=Xv G lb row L 0) h.leaves hl.log hl.apart
theorem Ze.write{D D1 D2:Qw}{G:Ug}{lb:Nat}{row:Option Nat}{L:List Q9}{fi j:Nat}{f:List Int}{w wr w':World}(h:Ze D G lb row L fi w D1 wr)(hl:Q8 (Qo D1) (Qo D2) wr w')(hd:D2.db=D1.db)(hc:D2.c=D1.c.set j f)(hj:fi<=j):Ze D G lb row L fi w D2 w':=
 ⟨Part.trans h.leaves hl,hd.trans h.db,fun i hi=>by rw[hc,List.getElem?_set_ne (by omega)];exact h.same i hi,by rw[hc,List.length_set];exact h.len⟩
theorem Jb.Q3e{G:Ug}{w:World}{lb:Nat}{row:Option Nat}{L:List Q9}(h:Jb G w lb row L 0){n:Nat}(hn:L.length=n):Jb {G with dn:=L.length} (w.setCell ⟨lb,6,none⟩ (.int .i64 n)) lb row L 0:=by
 obtain⟨⟨A,s,c,hv,hc,hown⟩,hap⟩:=h
 refine⟨⟨A,s,c,hv,?_,hown.kp (Kp.setCell w ⟨lb,6,none⟩ _) (fun q hq he=>hap (by rw[<-hv,hq,he]))⟩,hap⟩
 rw[Qn hc 6 _,hn]
 rfl
theorem Ze.ends{D D1:Qw}{G:Ug}{lb:Nat}{row:Option Nat}{L:List Q9}{fi n:Nat}{w wr:World}(h:Ze D G lb row L fi w D1 wr)(hl:Y3z D G lb row L w)(hn:L.length=n):
  Q8 (Part.both (Qo D) (Xv G lb row L 0)) (Part.both (Qo D1) (Xv {G with dn:=L.length} lb row L 0)) w (wr.setCell ⟨lb,6,none⟩ (.int .i64 n)):=by
 have h1:=Part.left (C:=Xv G lb row L 0) h.leaves hl.log hl.apart
 have hap:=(h.log hl).2
 refine Part.trans h1 ⟨⟨(Qo D1).kp h.leaves.1 (Kp.setCell wr ⟨lb,6,none⟩ (.int .i64 n)) (fun q hq he=>hap q hq (.inl he)),Jb.Q3e h1.1.2 hn⟩,(Kp.setCell wr ⟨lb,6,none⟩ (.int .i64 n)).mono (fun q hq=> .inr (.inl hq)),fun q hq=> .inl hq⟩
set_option maxRecDepth 4000 in
set_option maxHeartbeats 8000000 in
theorem Q0f(w:World)(D:Qw)(G:Ug)(lb:Nat)(row:Option Nat)(L:List Q9)(fi bl:Nat)(h:Y3z D G lb row L w)(hfi:G.fi=fi)(hbl:L.length<=6*bl)(hbl2:bl<=64)(hs:fi+bl<=D.s.length)(hs2:D.s.length<=1000)(h0:0<=G.dn)(h1:G.dn<=L.length)(hgood:∀r∈L,Qq r=true)(hvm:D.vm<=900000)(hn:1<=D.s.length):
  Calls Tryz.prog 107 #[.pointer (some ⟨lb,0,none⟩)] w fun e w'=>e=.returned (.int .i64 0)/\∃D',Q8 (Part.both (Qo D) (Xv G lb row L 0)) (Part.both (Qo D') (Xv {G with dn:=L.length} lb row L 0)) w w'/\D'.db=D.db/\(∀j,j<fi->D'.c[j]? =D.c[j]?)/\D'.c.length=D.c.length/\D'.vm<=D.vm/\(Qo D').apart (Xv {G with dn:=L.length} lb row L 0):=by
 have H:=Q0 h
 obtain⟨⟨A,n,c,hv,hc,hown⟩,hap⟩:=h.log
 have HOWN:=Q0 hown
 have hnL:L.length=n:=hown.len.symm
 have HN:=Q0 hnL
 rw[hnL]at hbl h1
 rw[hfi]at hc
 obtain⟨dn,hdn⟩:∃dn:Nat,G.dn=dn:=⟨G.dn.toNat,by omega⟩
 rw[hdn]at hc h0 h1
 rw[h.db]at hc
 have HC:=Q0 hc
 have HL1:Sc (Jb G w lb row L 0):=⟨h.log⟩
 have hnb:n<=384:=by omega
 have CL:∀X:Y2 w,Calls Tryz.prog 36 #[.pointer (some ⟨lb,0,none⟩)] X.world fun e w'=>e=.returned (.int .i64 n)/\Below X.world.heap.size X.world w':=fun X=>by
  have:=Jz X.world lb row L 0 (HL1.o.bel X.below) (by omega) (by omega) (by omega)
  rw[Int.zero_add,HN.o]at this
  exact this
 have d6:∀X:Y2 w,X.world.cell? ⟨lb,6,none⟩=some (.int .i64 dn):=fun X=>X.cell (J7 hc).2.2.2.2.2.1
 have HF0:=Q0 hbl
 have HF1:=Q0 hs
 have HF2:=Q0 hvm
 have HF3:=Q0 hn
 have HF4:=Q0 hgood
 have HF5:=Q0 hs2
 have HFI:=Q0 hfi
 have HDN:=Q0 hdn
 have HBL:=Q0 hbl2
 clear h hv hc hown hap hnL hdn hfi hgood hvm hn hs hs2 hbl hbl2
 by_cases hd:dn=n
 ·have HDD:=Q0 hd
  have e1:((dn:Int)==(n:Int))=true:=by simp[hd]
  have e2:decide ((dn:Int)=(n:Int))=true:=decide_eq_true (by omega)
  clear hd
  go_enter Tryz.func107,Tryz.ntmps107
  go_wp2_with fail
  refine Xn (by kernel_rfl) (by kernel_rfl) ?_
  repeat (go_big_quiet_step ((go_at_call 36;exact Y2.call _ (CL _))))
  refine wpQuiet_nil ?_
  intro wq hw'
  have HBQ:=Q0 (Y2.Ju hw')
  clear hw'
  go_wp2
  go_ret
  refine⟨rfl,D,?_,rfl,fun _ _=>rfl,rfl,Nat.le_refl _,H.o.apart⟩
  have hG:({G with dn:=(L.length:Int)}:Ug)=G:=by
   have h1:=HDN.o
   have h2:=HDD.o
   have h3:=HN.o
   obtain⟨db,fi',bl',dn'⟩:=G
   show Ug.mk db fi' bl' _=Ug.mk db fi' bl' dn'
   congr 1
   have:dn'=dn:=h1
   omega
  rw[hG]
  exact Part.same (A:=Part.both (Qo D) (Xv G lb row L 0)) ⟨H.o.V8,H.o.log⟩ HBQ.o
 ·have e1:((dn:Int)==(n:Int))=false:=by simp;omega
  have e2:decide ((dn:Int)=(n:Int))=false:=decide_eq_false (by omega)
  obtain⟨k0,hk0⟩:∃k0:Nat,dn / 6=k0:=⟨_,rfl⟩
  have w1:IntKind.i64.wrap (dn:Int)=dn:=IntWalk.i64_in _ ⟨by omega,by omega⟩
  have hk1:6*k0<=dn:=by omega
  have HK0:=Q0 hk0
  clear hk0
  go_enter Tryz.func107,Tryz.ntmps107
  go_wp2_with fail
  refine Xn (by kernel_rfl) (by kernel_rfl) ?_
  repeat (go_big_quiet_step ((go_at_call 36;exact Y2.call _ (CL _))))
  refine wpQuiet_nil ?_
  intro wq hw'
  have HBQ:=Q0 (Y2.Ju hw')
  have HCQ:=Q0 (up HBQ.o HC.o)
  obtain⟨c0,c1,c3,c4,c5,c6,lt,fr⟩:=J7 HCQ.o
  clear hw' CL d6
  go_upto_region 3 with fail
  go_quiet (fail)
  go_wp2_with fail
  go_loopg [3,4,5] 100 (fun kx s3 s4 s5 wr=>∃(k:Nat) (D1:Qw),s3=.int .i64 k/\6*k<n+6/\100 - k<=kx/\Sc (Ze D G lb row L fi w D1 wr)/\Sc (D1.vm<=D.vm+k))
  case atStart=>exact⟨k0,D,by rw[show((dn:Int) / 6)=(k0:Int) from by have:=HK0.o;omega],by omega,by omega,⟨(Ze.start H.o.V8).bel (X0 HBQ.o _)⟩,⟨by omega⟩⟩
  case round=>
   obtain⟨k,D1,rfl,hk6,hg,HLI,HVI⟩:=hrel
   obtain⟨hlog,hap1⟩:=HLI.o.log H.o
   have HAP1:=Q0 hap1
   have HLW:=Q0 hlog
   clear c0 c1 c3 c4 c5 c6 lt fr
   obtain⟨⟨A',n',c',hv,hc,hown⟩,hap⟩:=hlog
   obtain rfl:n'=n:=by have:=hown.len;rw[HN.o]at this;omega
   rw[HFI.o,HDN.o,H.o.db]at hc
   obtain⟨c0,c1,c3,c4,c5,c6,lt,fr⟩:=J7 hc
   have hk64:k<=64:=by omega
   obtain⟨lo,hlo⟩:∃lo:Nat,k*6=lo:=⟨_,rfl⟩
   have w3:IntKind.i64.wrap ((k:Int)*6)=(lo:Int):=by rw[IntWalk.i64_in _ ⟨by omega,by omega⟩];omega
   by_cases hlt:lo<n'
   ·have hlt':(lo:Int)<n':=by omega
    obtain⟨g,cg,he,_,_,hcc,hcm⟩:=hown.form (by rw[HN.o];omega)
    injection he with hA hn2 hC
    clear hn2
    subst hA
    subst hC
    obtain⟨h0',hh0⟩:∃h0':Nat,(k+1)*6=h0':=⟨_,rfl⟩
    have w4:IntKind.i64.wrap ((k:Int)+1)=(k:Int)+1:=IntWalk.i64_in _ ⟨by omega,by omega⟩
    have w5:IntKind.i64.wrap (((k:Int)+1)*6)=(h0':Int):=by rw[IntWalk.i64_in _ ⟨by omega,by omega⟩];omega
    rw[HN.o]at hcc
    have b0:(0:Int)<=lo:=by omega
    have b3:¬c'=lo:=by omega
    rcases Nat.lt_or_ge n' h0' with hnh|hnh
    ·skip
     have b1:(lo:Int)<=(n':Nat):=by omega
     have b2:((n':Nat):Int)<=c':=by omega
     have b4:lo<=n':=by omega
     have b5:n'<=c':=by omega
     have HLO:Sc (lo<n'/\n'<=n'/\n'<=lo+6/\k*6=lo):=⟨by omega⟩
     have HCB:∀X,Below wr.heap.size wr X->Calls Tryz.prog 146 #[.int .i64 1,.slice (some ⟨g,lo*10,none⟩) (n' - lo) (c' - lo)] X fun e w'=>∃v f,e=.returned (.tuple #[v,.int .i64 0])/\f.length=256/\Own Yx 1 5 X.heap.size w' v f/\Below wr.heap.size wr w':=fun X hX=>by
      have hM:((L.drop lo).take (n' - lo)).length=n' - lo:=by rw[List.length_take,List.length_drop,HN.o];have:=HLO.o;omega
      have:=Ej X g (lo*10) (c' - lo) ((L.drop lo).take (n' - lo)) ((hown.rdR lo (n' - lo)).bel hX) (by have:=HLO.o;omega) (by have:=HLO.o;omega) (fun r hr=>HF4.o r (List.mem_of_mem_drop (List.mem_of_mem_take hr))) (by have:=HLO.o;omega)
      rw[hM]at this
      exact this.mono fun e w' ⟨v,f,h1,h2,h3,h4⟩=>⟨v,f,h1,h2,h3,hX.trans (h4.mono hX.size)⟩
     have HCB:=Q0 HCB
     have HSW:Sc (∀W,Below wr.heap.size wr W->W.cell? ⟨lb,4,none⟩=some (.int .i64 1)/\W.cell? ⟨lb,5,none⟩=some (.slice (some ⟨g,0,none⟩) n' c')):=⟨fun W hW=>⟨(hW.cell lt).trans c4,(hW.cell lt).trans c5⟩⟩
     have HQ:Sc (Below wr.heap.size wr wr):=⟨Below.refl _ _⟩
     have HC2:=Q0 hc
     clear hh0 hlo hown hv hap hap1 hc hcc hcm fr
     go_wp2_with fail
     go_region_held3 (fun W=>W.cell? ⟨lb,4,none⟩=some (.int .i64 1)/\W.cell? ⟨lb,5,none⟩=some (.slice (some ⟨g,0,none⟩) n' c'))
      (first|with_reducible exact HSW.o _ HQ.o|with_reducible exact HSW.o _ (Below.drew HQ.o))
      (first
       |(go_at_call 146;go_loud (refine(HCB.o _ (by first|with_reducible exact HQ.o|with_reducible exact Below.drew HQ.o)).mono ?_;rintro e wt ⟨v,f,rfl,hl,ho,hq⟩;have HQ:=Q0 hq;have HFL:=Q0 hl;have HV:=Q0 ho.rd;clear hq ho hl)))
     clear c0 c1 c3 c4 c5 c6 lt
     obtain⟨c0,c1,c3,c4,c5,c6,lt,fr⟩:=J7 (up HQ.o HC2.o)
     have HQ2:=HQ
     have HLT:=Q0 (HLI.o.bel HQ2.o)
     obtain⟨j,hj⟩:∃j:Nat,fi+k=j:=⟨_,rfl⟩
     have w7:IntKind.i64.wrap ((fi:Int)+(k:Int))=(j:Int):=by have:=HF1.o;have:=HF5.o;rw[IntWalk.i64_in _ ⟨by omega,by omega⟩];omega
     have HJ:Sc (j=fi+k/\k<bl):=⟨by have:=HF0.o;have:=HLO.o;omega⟩
     have HW:Sc (∀X,Below wt.heap.size wt X->Calls Tryz.prog 89 #[.pointer (some ⟨D.db,0,none⟩),.int .i64 j,v] X fun e w'=>e=.returned (.int .i64 0)/\∃D2,Ze D G lb row L fi w D2 w'/\D2.vm<=D.vm+(k+1)/\w'.cell? ⟨lb,0,none⟩=some (.pointer (some ⟨D.db,0,none⟩))/\w'.cell? ⟨lb,1,none⟩=some (.int .i64 fi)):=⟨fun X hX=>by
      have hx:=HLT.o.bel hX
      have h1:=HVI.o
      have hlen:D1.s.length=D.s.length:=by rw[<-Qw.Yh,<-Qw.Yh];exact hx.len
      have h2:=V9 D1 X j v f hx.leaves.1 (by have:=HJ.o;have:=HF1.o;omega) (HV.o.bel hX) HFL.o (by have:=HF2.o;omega)
      rw[hx.db]at h2
      refine h2.mono ?_
      rintro e w' ⟨he,D2,hl2,hd2,hc2,hv2⟩
      have hf:=hx.write hl2 (by rw[hd2,hx.db]) hc2 (by have:=HJ.o;omega)
      obtain⟨hlog,_⟩:=hf.log H.o
      obtain⟨⟨A2,n2,c2,_,hc2',_⟩,_⟩:=hlog
      rw[HFI.o,HDN.o,H.o.db]at hc2'
      obtain⟨q0,q1,_⟩:=J7 hc2'
      exact⟨he,D2,hf,by omega,q0,q1⟩⟩
     have HSW2:Sc (∀W,Below wt.heap.size wt W->W.cell? ⟨lb,0,none⟩=some (.pointer (some ⟨D.db,0,none⟩))/\W.cell? ⟨lb,1,none⟩=some (.int .i64 fi)):=⟨fun W hW=>⟨(hW.cell lt).trans c0,(hW.cell lt).trans c1⟩⟩
     have HR:Sc (Below wt.heap.size wt wt):=⟨Below.refl _ _⟩
     clear hj c3 c4 c5 c6 fr HSW HCB
     go_wp2_with fail
     go_region_held3 (fun W=>W.cell? ⟨lb,0,none⟩=some (.pointer (some ⟨D.db,0,none⟩))/\W.cell? ⟨lb,1,none⟩=some (.int .i64 fi))
      (first|with_reducible exact HSW2.o _ HR.o|with_reducible exact HSW2.o _ (Below.drew HR.o)|with_reducible exact HS3.o)
      (first
       |(go_at_call 89;go_loud (refine(HW.o _ (by first|with_reducible exact HR.o|with_reducible exact Below.drew HR.o)).mono ?_;rintro e wu ⟨rfl,D2,hfa,hva,q0,q1⟩;have HS3:=Q0 (And.intro q0 q1);have HFA:=Q0 hfa;have HVA:=Q0 hva;clear hfa hva q0 q1)))
     go_wp2
     go_roundg (100 - (k+1))
     case measure=>omega
     case rel=>exact⟨k+1,D2,by go_num,by have:=HLO.o;omega,Nat.le_refl _,HFA,HVA⟩
    ·have hnh:¬n'<h0':=by omega
     have b1:(lo:Int)<=(h0':Nat):=by omega
     have b2:((h0':Nat):Int)<=c':=by omega
     have b4:lo<=h0':=by omega
     have b5:h0'<=c':=by omega
     have HLO:Sc (lo<h0'/\h0'<=n'/\h0'<=lo+6/\k*6=lo):=⟨by omega⟩
     have HCB:∀X,Below wr.heap.size wr X->Calls Tryz.prog 146 #[.int .i64 1,.slice (some ⟨g,lo*10,none⟩) (h0' - lo) (c' - lo)] X fun e w'=>∃v f,e=.returned (.tuple #[v,.int .i64 0])/\f.length=256/\Own Yx 1 5 X.heap.size w' v f/\Below wr.heap.size wr w':=fun X hX=>by
      have hM:((L.drop lo).take (h0' - lo)).length=h0' - lo:=by rw[List.length_take,List.length_drop,HN.o];have:=HLO.o;omega
      have:=Ej X g (lo*10) (c' - lo) ((L.drop lo).take (h0' - lo)) ((hown.rdR lo (h0' - lo)).bel hX) (by have:=HLO.o;omega) (by have:=HLO.o;omega) (fun r hr=>HF4.o r (List.mem_of_mem_drop (List.mem_of_mem_take hr))) (by have:=HLO.o;omega)
      rw[hM]at this
      exact this.mono fun e w' ⟨v,f,h1,h2,h3,h4⟩=>⟨v,f,h1,h2,h3,hX.trans (h4.mono hX.size)⟩
     have HCB:=Q0 HCB
     have HSW:Sc (∀W,Below wr.heap.size wr W->W.cell? ⟨lb,4,none⟩=some (.int .i64 1)/\W.cell? ⟨lb,5,none⟩=some (.slice (some ⟨g,0,none⟩) n' c')):=⟨fun W hW=>⟨(hW.cell lt).trans c4,(hW.cell lt).trans c5⟩⟩
     have HQ:Sc (Below wr.heap.size wr wr):=⟨Below.refl _ _⟩
     have HC2:=Q0 hc
     clear hh0 hlo hown hv hap hap1 hc hcc hcm fr
     go_wp2_with fail
     go_region_held3 (fun W=>W.cell? ⟨lb,4,none⟩=some (.int .i64 1)/\W.cell? ⟨lb,5,none⟩=some (.slice (some ⟨g,0,none⟩) n' c'))
      (first|with_reducible exact HSW.o _ HQ.o|with_reducible exact HSW.o _ (Below.drew HQ.o))
      (first
       |(go_at_call 146;go_loud (refine(HCB.o _ (by first|with_reducible exact HQ.o|with_reducible exact Below.drew HQ.o)).mono ?_;rintro e wt ⟨v,f,rfl,hl,ho,hq⟩;have HQ:=Q0 hq;have HFL:=Q0 hl;have HV:=Q0 ho.rd;clear hq ho hl)))
     clear c0 c1 c3 c4 c5 c6 lt
     obtain⟨c0,c1,c3,c4,c5,c6,lt,fr⟩:=J7 (up HQ.o HC2.o)
     have HQ2:=HQ
     have HLT:=Q0 (HLI.o.bel HQ2.o)
     obtain⟨j,hj⟩:∃j:Nat,fi+k=j:=⟨_,rfl⟩
     have w7:IntKind.i64.wrap ((fi:Int)+(k:Int))=(j:Int):=by have:=HF1.o;have:=HF5.o;rw[IntWalk.i64_in _ ⟨by omega,by omega⟩];omega
     have HJ:Sc (j=fi+k/\k<bl):=⟨by have:=HF0.o;have:=HLO.o;omega⟩
     have HW:Sc (∀X,Below wt.heap.size wt X->Calls Tryz.prog 89 #[.pointer (some ⟨D.db,0,none⟩),.int .i64 j,v] X fun e w'=>e=.returned (.int .i64 0)/\∃D2,Ze D G lb row L fi w D2 w'/\D2.vm<=D.vm+(k+1)/\w'.cell? ⟨lb,0,none⟩=some (.pointer (some ⟨D.db,0,none⟩))/\w'.cell? ⟨lb,1,none⟩=some (.int .i64 fi)):=⟨fun X hX=>by
      have hx:=HLT.o.bel hX
      have h1:=HVI.o
      have hlen:D1.s.length=D.s.length:=by rw[<-Qw.Yh,<-Qw.Yh];exact hx.len
      have h2:=V9 D1 X j v f hx.leaves.1 (by have:=HJ.o;have:=HF1.o;omega) (HV.o.bel hX) HFL.o (by have:=HF2.o;omega)
      rw[hx.db]at h2
      refine h2.mono ?_
      rintro e w' ⟨he,D2,hl2,hd2,hc2,hv2⟩
      have hf:=hx.write hl2 (by rw[hd2,hx.db]) hc2 (by have:=HJ.o;omega)
      obtain⟨hlog,_⟩:=hf.log H.o
      obtain⟨⟨A2,n2,c2,_,hc2',_⟩,_⟩:=hlog
      rw[HFI.o,HDN.o,H.o.db]at hc2'
      obtain⟨q0,q1,_⟩:=J7 hc2'
      exact⟨he,D2,hf,by omega,q0,q1⟩⟩
     have HSW2:Sc (∀W,Below wt.heap.size wt W->W.cell? ⟨lb,0,none⟩=some (.pointer (some ⟨D.db,0,none⟩))/\W.cell? ⟨lb,1,none⟩=some (.int .i64 fi)):=⟨fun W hW=>⟨(hW.cell lt).trans c0,(hW.cell lt).trans c1⟩⟩
     have HR:Sc (Below wt.heap.size wt wt):=⟨Below.refl _ _⟩
     clear hj c3 c4 c5 c6 fr HSW HCB
     go_wp2_with fail
     go_region_held3 (fun W=>W.cell? ⟨lb,0,none⟩=some (.pointer (some ⟨D.db,0,none⟩))/\W.cell? ⟨lb,1,none⟩=some (.int .i64 fi))
      (first|with_reducible exact HSW2.o _ HR.o|with_reducible exact HSW2.o _ (Below.drew HR.o)|with_reducible exact HS3.o)
      (first
       |(go_at_call 89;go_loud (refine(HW.o _ (by first|with_reducible exact HR.o|with_reducible exact Below.drew HR.o)).mono ?_;rintro e wu ⟨rfl,D2,hfa,hva,q0,q1⟩;have HS3:=Q0 (And.intro q0 q1);have HFA:=Q0 hfa;have HVA:=Q0 hva;clear hfa hva q0 q1)))
     go_wp2
     go_roundg (100 - (k+1))
     case measure=>omega
     case rel=>exact⟨k+1,D2,by go_num,by have:=HLO.o;omega,Nat.le_refl _,HFA,HVA⟩
   ·have hlt':¬((lo:Int)<n'):=by omega
    have HW:Sc (Calls Tryz.prog 91 #[.pointer (some ⟨D.db,0,none⟩)] wr fun e w'=>e=.returned (.int .i64 0)/\Ze D G lb row L fi w D1.done w'):=⟨by
     have hx:=HLI.o
     have hlen:D1.s.length=D.s.length:=by rw[<-Qw.Yh,<-Qw.Yh];exact hx.len
     have h3:=HF3.o
     have h5:=HF5.o
     have:=Ov D1 wr hx.leaves.1 (hx.leaves.1.vm1 (by omega)) (by omega)
     rw[hx.db]at this
     exact this.mono fun e w' ⟨he,hl⟩=>⟨he,Part.trans hx.leaves hl,hx.db,fun j hj=>by rw[Q4e];exact hx.same j hj,by rw[Q4e];exact hx.len⟩⟩
    clear hown hv hap hap1 hc
    go_wp2_with fail
    refine HW.o.mono ?_
    rintro e wu ⟨rfl,hf⟩
    obtain⟨hlog,hapu⟩:=hf.log H.o
    have HFU:=Q0 hf
    have HAU:=Q0 hapu
    have HLU:=Q0 hlog
    have CU:Sc (Calls Tryz.prog 36 #[.pointer (some ⟨lb,0,none⟩)] wu fun e w'=>e=.returned (.int .i64 n')/\Below wu.heap.size wu w'):=⟨by
     have:=Jz wu lb row L 0 HLU.o (by rw[HN.o];omega) (by omega) (by omega)
     rw[Int.zero_add,HN.o]at this
     exact this⟩
    have HVE:Sc (D1.done.vm<=D.vm):=⟨by have:=H.o.V8.vm1 HF3.o;show 1<=D.vm;exact this⟩
    clear hf hapu hlog c0 c1 c3 c4 c5 c6 lt fr
    go_wp2_with fail
    refine CU.o.mono ?_
    rintro e w5 ⟨rfl,hb5⟩
    have HF6:=Q0 (HFU.o.bel hb5)
    obtain⟨hlog,_⟩:=HF6.o.log H.o
    obtain⟨⟨A2,n2,c2,_,hc2,_⟩,_⟩:=hlog
    obtain⟨c0,c1,c3,c4,c5,c6,lt,fr⟩:=J7 hc2
    clear hb5 hc2
    go_wp2
    go_ret
    exact⟨rfl,D1.done,HF6.o.ends H.o HN.o,HF6.o.db,HF6.o.same,HF6.o.len,HVE.o,(HF6.o.log H.o).2⟩
section
variable{G:Ug}
theorem Gk.leaves{lb:Nat}{row:Option Nat}{L L':List Q9}{bs:Int}{w w':World}(h:Gk G lb row L' bs w w'):∃row',Q8 (Xv G lb row L bs) (Xv G lb row' L' bs) w w':=by
 obtain⟨row',hl,hk,hat⟩:=h
 refine⟨row',hl,hk,fun q hq=> ?_⟩
 rcases hq with rfl|hq
 ·exact .inl (.inl rfl)
 ·rcases hat with rfl|⟨q',he,hge⟩
  ·exact .inl (.inr hq)
  ·rw[he]at hq
   injection hq with hq
   exact .inr (by omega)
set_option maxRecDepth 4000 in
set_option maxHeartbeats 4000000 in
theorem Cm(w:World)(lb:Nat)(row:Option Nat)(L:List Q9)(bs:Int)(r:Q9)(h:Jb G w lb row L bs)(hlen:(L.length:Int)=6*G.bl)(hbl:G.bl<=1000)(h0:0<=bs)(h1:bs<=1000000):
  Calls Tryz.prog 26 #[.pointer (some ⟨lb,0,none⟩),Yg r] w fun e w'=>(∃c:Int,c≠0/\e=.returned (.tuple #[.int .i64 0,.int .i64 c]))/\Gk G lb row L bs w w':=by
 have HB1:Sc (Below w.heap.size w (w.alloc (.cells (Qe r) 49))):=⟨Q3 (Below.refl _ _) _⟩
 have HX:=Q0 h
 have HL1:=Q0 (h.bel HB1.o)
 have HZ1:=Q0 (heap_alloc_new w (.cells (Qe r) 49))
 obtain⟨w1,hw1⟩:∃w1,w.alloc (.cells (Qe r) 49)=w1:=⟨_,rfl⟩
 rw[hw1]at HB1 HL1 HZ1
 obtain⟨c0,c1,c2,c3,c4,c5,c6,c7,c8,c9⟩:=Qb HZ1.o
 have HLEN:=Q0 hlen
 have HBL:=Q0 hbl
 clear h hlen hbl
 go_enter Tryz.func26,Tryz.ntmps26
 go_wp2_with fail
 clear hw1
 refine(Uy _ r).mono ?_
 cases hgd:Qq r with
 |false=>
  clear hgd
  rintro e w2 ⟨rfl,hb⟩
  have HB2:Sc (Below w.heap.size w w2):=⟨Q5 HB1.o hb⟩
  clear hb c0 c1 c2 c3 c4 c5 c6 c7 c8 c9
  go_wp2
  go_ret2
  exact⟨⟨102,by decide,rfl⟩,Gk.same HX.o HB2.o⟩
 |true=>
  clear hgd
  rintro e w2 ⟨rfl,hb⟩
  have HB2:Sc (Below w.heap.size w w2):=⟨Q5 HB1.o hb⟩
  have HL2:=Q0 (HL1.o.bel hb)
  clear hb c0 c1 c2 c3 c4 c5 c6 c7 c8 c9
  go_wp2_with fail
  refine(Eb _ lb row L bs HL2.o (by have:=HLEN.o;omega) HBL.o h0 h1).mono ?_
  rw[show 6*G.bl - (L.length:Int)=0 from by have:=HLEN.o;omega]
  rintro e w3 ⟨rfl,hb⟩
  have HB3:Sc (Below w.heap.size w w3):=⟨Q5 HB2.o hb⟩
  clear hb
  go_wp2
  go_ret2
  exact⟨⟨109,by decide,rfl⟩,Gk.same HX.o HB3.o⟩
def Y1f(G:Ug)(lb:Nat)(row:Option Nat)(L:List Q9)(r:Q9)(w:World)(e:Ending)(w':World):Prop:=
 ((Qq r=true/\(L.length:Int)<6*G.bl)/\e=.returned (.tuple #[.int .i64 ((L.length:Int)+1),.int .i64 0])/\∃row',Q8 (Xv G lb row L 0) (Xv G lb row' (L++[r]) 0) w w')\/
 ((Qq r=false\/6*G.bl<=(L.length:Int))/\∃c:Int,c≠0/\e=.returned (.tuple #[.int .i64 0,.int .i64 c])/\∃row',Q8 (Xv G lb row L 0) (Xv G lb row' L 0) w w')
theorem Dr(w:World)(lb:Nat)(row:Option Nat)(L:List Q9)(r:Q9)(h:Jb G w lb row L 0)(hlen:(L.length:Int)<=6*G.bl)(hbl:G.bl<=1000):
  Calls Tryz.prog 26 #[.pointer (some ⟨lb,0,none⟩),Yg r] w (Y1f G lb row L r w):=by
 by_cases hf:(L.length:Int)<6*G.bl
 ·refine(Q6d w lb row L 0 r h (by omega) hbl (by omega) (by omega)).mono fun e w' ha=> ?_
  unfold Q6e at ha
  cases hg:Qq r with
  |true=>
   rw[if_pos hg]at ha
   rw[Int.zero_add]at ha
   exact .inl ⟨⟨hg,hf⟩,ha.1,ha.2.leaves⟩
  |false=>
   rw[if_neg (by rw[hg];simp)]at ha
   exact .inr ⟨.inl hg,102,by decide,ha.1,ha.2.leaves⟩
 ·refine(Cm w lb row L 0 r h (by omega) hbl (by omega) (by omega)).mono fun e w' ⟨⟨c,hc,he⟩,hl⟩=> ?_
  exact .inr ⟨.inr (by omega),c,hc,he,hl.leaves⟩
end
section
variable{Rd:Fld}{o:Nat}
set_option maxHeartbeats 1000000 in
theorem Q5y(w:World)(tb:Nat)(row:Option Nat)(l:List (Int×Int))(p:Int)(h:Gm Rd o w tb row l)(hlen:l.length<=1000000):
  Calls Tryz.prog 113 #[.pointer (some ⟨tb,o,none⟩),.int .i64 p] w fun e w'=>e=.returned (.bool (has l p))/\J5 Rd o tb row (X4 l p) w w':=by
 have HTab:=Q0 h
 obtain⟨i0,hi,hz0,hz1,hz2⟩:=info_parts Q0a
 obtain⟨⟨v,hv,hc,hown⟩,hap,hr⟩:=h
 obtain⟨A,cap,rfl,hnc,hcm⟩:=hown.slice
 obtain⟨n,hn⟩:∃n,l.length=n:=⟨_,rfl⟩
 rw[hn]at hown hlen hc
 have hc1:=hc.cell0
 have hfz:=hc.Qr o
 have htlt:=hc.lt
 have HTL:=Q0 htlt
 have HC:=Q0 hc
 have HN:=Q0 hn
 have HO:=Q0 hown
 have HR:=Q0 hr
 have HCM:=Q0 (And.intro (hn▸hnc) hcm)
 clear hown hr hc hv hap hn hnc hcm htlt
 go_enter Tryz.func113,Tryz.ntmps113
 go_wp2
 go_loop [5] (fun s5=>∃i:Nat,s5=.int .i64 i/\i<=n/\Sc (∀j x,j<i->l[j]? =some x->x.1≠p)) (fun s5=>n - (intOf s5).toNat)
 case atStart=>exact⟨0,rfl,by omega,⟨fun j x hj=>absurd hj (Nat.not_lt_zero _)⟩⟩
 case round=>
  obtain⟨i,rfl,hi',HI⟩:=hrel
  by_cases hlt:i<n
  ·obtain⟨x,hx⟩:∃x,l[i]? =some x:=⟨_,List.getElem?_eq_getElem (by rw[HN.o];exact hlt)⟩
   obtain⟨g,cq,he,_,hgw,_,_⟩:=HO.o.form (by rw[HN.o];omega)
   injection he with hA hn2 hC
   subst hA
   obtain⟨d0,d1⟩:=HO.o.Xb hx
   have HX:=Q0 hx
   have hil:(i:Int)<n:=by omega
   clear hx hC hn2
   by_cases hp:x.1=p
   ·have hb:(x.1==p)=true:=by simp[hp]
    have HL:Sc (has l p=true):=⟨by rw[<-hp];exact Gd HX.o⟩
    have HD:Sc (X4 l p=l.take i++l.drop (i+1)):=⟨by rw[drop'_yes HL.o,<-hp,X9u HR.o HX.o]⟩
    have HTk:=Q0 (HO.o.take Xh (k:=i) (by omega))
    have HTl:Sc (∀j u,(flat Qj (l.drop (i+1)))[j]? =some u->w.cell? ((⟨g,(i+1)*2,none⟩:Addr).add j)=some u):=⟨HO.o.tail Xh (i+1)⟩
    have HT:Sc ((l.take i).length=i):=⟨by rw[List.length_take,HN.o];omega⟩
    have HE:Sc ((l.drop (i+1)).length=n - (i+1)):=⟨by rw[List.length_drop,HN.o]⟩
    have n0:i<=cap:=by have:=HCM.o.1;omega
    have n1:n<=cap:=HCM.o.1
    have n2:(i:Int)<=cap:=by omega
    have n3:(i:Int)+1<=n:=by omega
    have n4:((i:Int)+1).toNat=i+1:=by omega
    have n5:(0:Int)<=(i:Int)+1:=by omega
    have n6:(n:Int)<=cap:=by omega
    clear hp
    by_cases hcap:cap=i+1
    ·subst hcap
     have HTl2:=HTl
     have HTl:Sc (∀j u,(flat Qj (l.drop (i+1)))[j]? =some u->w.cell? ((⟨g,0,none⟩:Addr).add j)=some u):=⟨fun j u hj=>by
      have hz:l.drop (i+1)=[]:=List.eq_nil_of_length_eq_zero (by rw[HE.o];omega)
      rw[hz]at hj;cases hj⟩
     clear HTl2
     go_wp2_with (first|(go_at_call 127;refine(Jg w 0 _ (l.take i) HTk.o (by rw[HT.o];omega)).mono ?_;rintro e w2 ⟨v2,rfl,ho,hb2⟩;obtain⟨A2,c2,rfl,_,_⟩:=ho.slice;have hcw2:=HC.o.bel hb2;have hc2:=hcw2.cell0;have HO2:=Q0 ho;have HB2:=Q0 hb2;rw[HT.o]at HO2 ⊢;clear ho hb2 hcw2)|(at_builtin;go_loud (refine wpList_append_own_at _ rfl (.tmp 34) (.tmp 41) 32 rfl w.heap.size 60 i0 (.agg #[.int .i64 0,.int .i64 0]) 2 16 Tryz.underlying32 hi hz0 hz1 hz2 rfl (by decide) _ i (flat Qj (l.take i)) rfl (HO2.o.rows HT.o) ⟨g,0,none⟩ 0 0 (flat Qj (l.drop (i+1))) rfl ?c1 (Xo HB2.o HTl.o) (Xh.Xk _) ?c3 ?c4 ?c5 ?_)))
     case c1=>rw[Xh.Qp,HE.o];omega
     case c3=>unfold maxLen;omega
     case c4=>omega
     case c5=>exact HB2.o.size
     intro v3 w3 h1 h2 h3 h4
     have H1:Sc (Own Qj 2 60 w.heap.size w3 v3 (X4 l p)):=⟨Own.Qv h1 (by rw[HD.o,List.length_append,HT.o,HE.o];omega) (by rw[HD.o,Qc])⟩
     have H2:Sc (Below w.heap.size w w3):=⟨HB2.o.grown h2 HB2.o.size (fun k hk=>(HO2.o.lt k hk).1)⟩
     have hcw3:=HC.o.bel H2.o
     have hc3:=hcw3.cell0
     have hf3:=hcw3.Qr o
     have HC3:=Q0 hcw3
     obtain⟨A3,n3',c3,rfl⟩:=H1.o.slice3
     clear h1 h2 h3 h4 hcw3
     go_wp2
     go_ret
     refine⟨by rw[HL.o];rfl,?_⟩
     exact J5.stored HC3.o (H1.o.mono (Nat.zero_le _)) (drop'_rising HR.o p) HTL.o (Kp.Qi H2.o _) (fun q hq=>(H1.o.lt q hq).1)
    ·go_wp2_with (first|(go_at_call 127;refine(Jg w 0 _ (l.take i) HTk.o (by rw[HT.o];omega)).mono ?_;rintro e w2 ⟨v2,rfl,ho,hb2⟩;obtain⟨A2,c2,rfl,_,_⟩:=ho.slice;have hcw2:=HC.o.bel hb2;have hc2:=hcw2.cell0;have HO2:=Q0 ho;have HB2:=Q0 hb2;rw[HT.o]at HO2 ⊢;clear ho hb2 hcw2)|(at_builtin;go_loud (refine wpList_append_own_at _ rfl (.tmp 34) (.tmp 41) 32 rfl w.heap.size 60 i0 (.agg #[.int .i64 0,.int .i64 0]) 2 16 Tryz.underlying32 hi hz0 hz1 hz2 rfl (by decide) _ i (flat Qj (l.take i)) rfl (HO2.o.rows HT.o) ⟨g,(i+1)*2,none⟩ (n - (i+1)) (cap - (i+1)) (flat Qj (l.drop (i+1))) rfl ?c1 (Xo HB2.o HTl.o) (Xh.Xk _) ?c3 ?c4 ?c5 ?_)))
     case c1=>rw[Xh.Qp,HE.o]
     case c3=>unfold maxLen;omega
     case c4=>omega
     case c5=>exact HB2.o.size
     intro v3 w3 h1 h2 h3 h4
     have H1:Sc (Own Qj 2 60 w.heap.size w3 v3 (X4 l p)):=⟨Own.Qv h1 (by rw[HD.o,List.length_append,HT.o,HE.o]) (by rw[HD.o,Qc])⟩
     have H2:Sc (Below w.heap.size w w3):=⟨HB2.o.grown h2 HB2.o.size (fun k hk=>(HO2.o.lt k hk).1)⟩
     have hcw3:=HC.o.bel H2.o
     have hc3:=hcw3.cell0
     have hf3:=hcw3.Qr o
     have HC3:=Q0 hcw3
     obtain⟨A3,n3',c3,rfl⟩:=H1.o.slice3
     clear h1 h2 h3 h4 hcw3
     go_wp2
     go_ret
     refine⟨by rw[HL.o];rfl,?_⟩
     exact J5.stored HC3.o (H1.o.mono (Nat.zero_le _)) (drop'_rising HR.o p) HTL.o (Kp.Qi H2.o _) (fun q hq=>(H1.o.lt q hq).1)
   ·have hb:(x.1==p)=false:=by simp[hp]
    have HJ:Sc (∀j y,j<i+1->l[j]? =some y->y.1≠p):=⟨fun j y hj hy=>by
     rcases Nat.lt_succ_iff_lt_or_eq.1 hj with h|h
     ·exact HI.o j y h hy
     ·subst h;have h1:=HX.o;rw[hy]at h1;injection h1 with h1;subst h1;exact hp⟩
    clear hp
    go_wp2
    go_round
    case rel=>exact⟨i+1,by go_num,by omega,HJ⟩
    case measure=>simp[intOf];omega
  ·obtain rfl:i=n:=by omega
   have HL:Sc (has l p=false):=⟨by
    cases hh:has l p with
    |false=>rfl
    |true=>
     obtain⟨x,hx,hk⟩:=Qy.1 hh
     obtain⟨j,hj⟩:=List.mem_iff_getElem?.1 hx
     exact absurd hk (HI.o j x (by rw[<-HN.o];exact(List.getElem?_eq_some_iff.1 hj).1) hj)⟩
   go_wp2
   go_ret
   exact⟨by rw[HL.o];rfl,by rw[drop'_no HL.o];exact J5.same HTab.o (Below.refl _ _)⟩
end
set_option maxRecDepth 4000 in
set_option maxHeartbeats 2000000 in
theorem Q9d(D:Qw)(w:World)(i:Nat)(g:J4)(h:Zb D w)(hg:D.s[i]? =some g):
  Calls Tryz.prog 149 #[.pointer (some ⟨D.db,0,none⟩),.int .i64 i] w fun e w'=>∃v,e=.returned (.tuple #[v,.int .i64 0])/\Own Yx 1 5 w.heap.size w' v g.f/\Below w.heap.size w w':=by
 obtain⟨c0,c1,c2,lt⟩:=h.cells
 obtain⟨d0,hs⟩:=h.sec hg
 have hfit:=h.fits
 have hfew:=h.few
 have hlt:=(List.getElem?_eq_some_iff.1 hg).1
 have e0:=hs.last
 have hs1:=hs.some_
 have hs2:=hs.fits
 have hs3:=hs.few
 have ROW:=Q0 hs.row
 have L256:=Q0 hs.Y7g
 obtain⟨db,hdb⟩:∃db,D.db=db:=⟨_,rfl⟩
 obtain⟨sr,hsr⟩:∃sr,D.sr=sr:=⟨_,rfl⟩
 obtain⟨n,hn⟩:∃n,D.s.length=n:=⟨_,rfl⟩
 obtain⟨cap,hcap⟩:∃cap,D.cap=cap:=⟨_,rfl⟩
 obtain⟨ln,hln⟩:∃ln,g.len=ln:=⟨_,rfl⟩
 obtain⟨m,hmm⟩:∃m,g.len - 1=m:=⟨_,rfl⟩
 unfold Dp at d0
 rw[hmm]at e0
 rw[hln]at d0 hs2 hs1
 rw[hn,hcap,hsr,hdb]at c0
 rw[hdb]at c2 lt ⊢
 rw[hsr]at d0
 rw[hn]at hlt hfit
 rw[hcap]at hfit hfew
 obtain⟨ib,hib⟩:∃ib,g.ib=ib:=⟨_,rfl⟩
 obtain⟨off,hoff⟩:∃off,g.off=off:=⟨_,rfl⟩
 obtain⟨gc,hgc⟩:∃gc,g.cap=gc:=⟨_,rfl⟩
 obtain⟨vb,hvb⟩:∃vb,g.vb=vb:=⟨_,rfl⟩
 obtain⟨bc,hbc⟩:∃bc,g.bc=bc:=⟨_,rfl⟩
 rw[hib,hoff,hvb,hbc]at e0
 rw[hib,hoff,hgc]at d0
 rw[hgc]at hs2 hs3
 rw[hvb,hbc]at ROW
 have l1:=World.block_lt_of_cell? _ _ d0
 have l2:=World.block_lt_of_cell? _ _ e0
 have HSW:Sc (∀W,Below w.heap.size w W->W.cell? ⟨db,0,none⟩=some (.slice (some ⟨sr,0,none⟩) n cap)/\W.cell? ⟨sr,i,none⟩=some (.slice (some ⟨ib,off,none⟩) ln gc)/\W.cell? ⟨ib,off+m,none⟩=some (.slice (some ⟨vb,0,none⟩) 256 bc)):=⟨fun W hW=>⟨(hW.cell lt).trans c0,(hW.cell l1).trans d0,(hW.cell l2).trans e0⟩⟩
 have hi1:(i:Int)<n:=by omega
 have hi2:¬((n:Int)<=i):=by omega
 have dd1:decide ((i:Int)<0)=false:=decide_eq_false (by omega)
 have dd2:decide ((n:Int)<=i)=false:=decide_eq_false hi2
 have hwm:IntKind.i64.wrap ((ln:Int) - 1)=(m:Int):=by rw[IntWalk.i64_in _ ⟨by unfold maxLen at hs3;omega,by unfold maxLen at hs3;omega⟩];omega
 have hm1:(m:Int)<(ln:Int):=by omega
 have hm2:(0:Int)<=(m:Int):=by omega
 clear h hg c1 hs hn hcap hsr hdb hln hmm hib hoff hgc hvb hbc hs1
 go_enter Tryz.func149,Tryz.ntmps149
 go_wp2_with fail
 have HQ:Sc (Below w.heap.size w w):=⟨Below.refl _ _⟩
 have CN:∀X,Below w.heap.size w X->Calls Tryz.prog 131 #[.slice (some ⟨vb,0,none⟩) 256 bc] X fun e w'=>∃v,e=.returned v/\Own Yx 1 5 w.heap.size w' v g.f/\Below w.heap.size w w':=fun X hX=>(Gg X _ g.f (ROW.o.below hX).rd (by rw[L256.o];omega)).mono fun e w' ⟨v,he,ho,hb⟩=>⟨v,he,ho.mono hX.size,hX.trans (hb.mono hX.size)⟩
 go_region_held3 (fun W=>W.cell? ⟨db,0,none⟩=some (.slice (some ⟨sr,0,none⟩) n cap)/\W.cell? ⟨sr,i,none⟩=some (.slice (some ⟨ib,off,none⟩) ln gc)/\W.cell? ⟨ib,off+m,none⟩=some (.slice (some ⟨vb,0,none⟩) 256 bc))
  (first|with_reducible exact HSW.o _ HQ.o|with_reducible exact HSW.o _ (Below.drew HQ.o))
  (first
   |(go_at_call 131;go_loud (refine(CN _ (by first|with_reducible exact HQ.o|with_reducible exact Below.drew HQ.o)).mono ?_;rintro e wt ⟨v,rfl,ho,hq⟩;obtain⟨Av,nv,cv,rfl⟩:=ho.slice3;have HQ:=Q0 hq;have HV:=Q0 ho;clear hq ho)))
 go_wp2
 go_ret2
 exact⟨.slice Av nv cv,rfl,HV.o,HQ.o⟩
end Go.Proofs.YtoapihepdallbaaGreatDoor
