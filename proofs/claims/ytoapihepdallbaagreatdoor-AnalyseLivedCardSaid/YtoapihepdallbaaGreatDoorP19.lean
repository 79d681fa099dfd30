import Derived.Test.YtoapihepdallbaaGreatDoorP18
namespace Go.Proofs.YtoapihepdallbaaGreatDoor
open Go.RowKit
section
set_option maxHeartbeats 4000000
theorem Yf(w:World):Calls Tryz.prog 10 #[X5 0] w fun e w'=>e=.returned (.bool false)/\Below w.heap.size w w':=by
 go_enter Tryz.func10,Tryz.ntmps10
 go_wp2
 go_ret
 exact⟨rfl,Q3 (Below.refl _ _) _⟩
theorem Q9n{w:World}{b:Nat}{u0 u1 u2:Value}:Kp (fun q=>q=b) w (((w.setCell ⟨b,0,none⟩ u0).setCell ⟨b,1,none⟩ u1).setCell ⟨b,2,none⟩ u2):=
 ((Kp.setCell w ⟨b,0,none⟩ u0).trans (Kp.setCell _ ⟨b,1,none⟩ u1) (fun _ hq=> .inl hq)).trans (Kp.setCell _ ⟨b,2,none⟩ u2) (fun _ hq=> .inl hq)
inductive Vs (L:List Q9):Int->List Int->Prop where
 |nil:Vs L 0 []
 |cons (n m:Int) (r:Q9) (l:List Int):Qx L 0 n=some r->0<=r.prev->r.prev<n->Yp L r.prev m->Vs L m l->Vs L n (n::l)
theorem Vs.inv{L:List Q9}{n:Int}{l:List Int}(h:Vs L n l):(n=0/\l=[])\/∃m r l',Qx L 0 n=some r/\0<=r.prev/\r.prev<n/\Yp L r.prev m/\Vs L m l'/\l=n::l':=by
 cases h with
 |nil=>exact .inl ⟨rfl,rfl⟩
 |cons _ m r l h1 h2 h3 h4 h5=>exact .inr ⟨m,r,l,h1,h2,h3,h4,h5,rfl⟩
theorem Yp.le{L:List Q9}{l n:Int}(h:Yp L l n):0<=l->0<=n/\n<=l:=by
 induction h with
 |zero=>intro _;omega
 |set l r h1 h2=>intro _;omega
 |begin_ l r h1 h2=>intro _;omega
 |clr l n r h1 h2 h3 h4 h5 ih=>intro _;have:=ih h3;omega
 |skip l n r h1 h2 h3 h4 h5 ih=>intro _;have:=ih h3;omega
theorem Vs.length_le{L:List Q9}{n:Int}{l:List Int}(h:Vs L n l):(l.length:Int)<=max n 0:=by
 induction h with
 |nil=>simp
 |cons n m r l h1 h2 h3 h4 h5 ih=>
  have:=h4.le h2
  rw[List.length_cons]
  omega
variable{G:Ug}
set_option maxRecDepth 4000 in
theorem X8e(w:World)(lb:Nat)(row:Option Nat)(L:List Q9)(x n:Int)(l:List Int)(h:Jb G w lb row L 0)(hlen:L.length<=1000)(h0:0<=x)(hx:x<=1000)(hn:Yp L x n)(hc:Vs L n l):
  Calls Tryz.prog 105 #[.pointer (some ⟨lb,0,none⟩),.int .i64 x] w fun e w'=>∃v,e=.returned (.tuple #[v,X5 0])/\Own X6 1 3 0 w' v l/\Below w.heap.size w w':=by
 obtain⟨it,hi,hz0,hz1,hz2⟩:=info_parts Q0c
 have HB1:Sc (Below w.heap.size w (w.alloc (.cells fz 41))):=⟨Q3 (Below.refl _ _) _⟩
 have HL1:=Q0 (h.bel HB1.o)
 have HL0:=Q0 h
 have HZ1:=Q0 (heap_alloc_new w (.cells fz 41))
 have HLN:Sc (l.length<=1000):=⟨by have:=hc.length_le;have:=hn.le h0;omega⟩
 have HCT:=Q0 hc
 have HNT:=Q0 hn
 have hlen':L.length<=1000000:=by omega
 obtain⟨w1,hw1⟩:∃w1,w.alloc (.cells fz 41)=w1:=⟨_,rfl⟩
 obtain⟨b5,hb5⟩:∃b,w.heap.size=b:=⟨_,rfl⟩
 rw[hw1]at HB1 HL1 HZ1
 rw[hb5]at HZ1
 have H5:Sc (w.heap.size<=b5):=⟨by omega⟩
 have h5l:=Q6 HZ1.o
 clear h hn hc
 go_enter Tryz.func105,Tryz.ntmps105
 go_wp2_with fail
 clear hw1 hb5
 refine(Q4q _ lb row L x n HL1.o hlen' h0 HNT.o).mono ?_
 rintro e w2 ⟨rfl,hb⟩
 have HB2:Sc (Below w1.heap.size w1 (w2.alloc (.cells #[.int .i64 0,.bool false,.int .i64 0] 41))):=⟨Q3 hb _⟩
 have HZ5:=Q0 (up HB2.o HZ1.o)
 have HZ8:=Q0 (heap_alloc_new w2 (.cells #[.int .i64 0,.bool false,.int .i64 0] 41))
 have HB3:=Q0 (Q5 HB1.o HB2.o)
 have hne:b5≠w2.heap.size:=by have:=hb.size;omega
 have H8:Sc (w.heap.size<=w2.heap.size):=⟨Nat.le_trans HB1.o.size hb.size⟩
 clear hb
 go_wp2_with fail
 obtain⟨b8,hb8⟩:∃b,w2.heap.size=b:=⟨_,rfl⟩
 rw[hb8]at HZ8 hne H8 ⊢
 clear hb8
 go_loopg [6,7] l.length (fun kx s6 s7 wr=>∃(m:Int) (dn rs:List Int),s7=.int .i64 m/\rs.length<=kx/\Sc (Vs L m rs)/\Sc (l=dn++rs)/\Sc (Own X6 1 3 w.heap.size wr s6 dn)/\Sc (Below w.heap.size w wr)/\Sc (wr.heap[b5]? =some (.cells fz 41 (0,0)))/\Sc (wr.heap[b8]? =some (.cells fz 41 (0,0)))/\Sc (∀q,s6.ownBlock=some q->q≠b5/\q≠b8))
 case atStart=>exact⟨n,[],l,rfl,Nat.le_refl _,HCT,⟨rfl⟩,⟨Own.nil⟩,HB3,HZ5,HZ8,⟨fun q hq=>by cases hq⟩⟩
 case round=>
  obtain⟨m,dn,rs,rfl,hrk,HC,HDR,HO,HB,HZA,HZB,HAP⟩:=hrel
  clear HCT HZ5 HZ8
  obtain⟨p0,p1,p2,p3,p4,p5,lp⟩:=Q7 HZB.o
  go_wp2_with fail
  refine(Yf _).mono ?_
  rintro e w4 ⟨rfl,hb4⟩
  have HB4:=Q0 (Q5 HB.o hb4)
  have HZA4:=Q0 (up hb4 HZA.o)
  have HZB4:=Q0 (up hb4 HZB.o)
  have HO4:=Q0 (HO.o.below hb4)
  clear hb4 p0 p1 p2 p3 p4 p5 lp HO HB HZA HZB
  rcases HC.o.inv with ⟨rfl,rfl⟩|⟨m',r,rs',hr,hp0,hpm,hnn,hcc,rfl⟩
  ·have e0:((0:Int) !=0)=false:=rfl
   have HLL:Sc (l=dn):=⟨by rw[HDR.o,List.append_nil]⟩
   obtain⟨p0,p1,p2,p3,p4,p5,lp⟩:=Q7 HZB4.o
   go_wp2_with fail
   refine(Yf _).mono ?_
   rintro e w5 ⟨rfl,hb5⟩
   have HB5:=Q0 (Q5 HB4.o hb5)
   have HO5:=Q0 (HO4.o.below hb5)
   have HZ5A:=Q0 (up hb5 HZA4.o)
   have HZ5B:=Q0 (up hb5 HZB4.o)
   obtain⟨A,nn,cc,rfl⟩:=HO5.o.slice3
   clear hb5 p0 p1 p2 p3 p4 p5 lp
   obtain⟨p0,p1,p2,p3,p4,p5,lp⟩:=Q7 HZ5B.o
   obtain⟨q0,q1,q2,y0,y1,y2,lz⟩:=Q7 HZ5A.o
   have hne':¬b8=b5:=fun h=>hne h.symm
   go_wp2_with fail
   go_region
   all_goals
    go_wp2
    refine bodyPost_ret (v:=.tuple #[.slice A nn cc,X5 0]) (by simp[results,Tryz.results105,go_sem,q0,q1,q2]) rfl ⟨.slice A nn cc,rfl,?_,?_⟩
    ·rw[HLL.o]
     exact(HO5.o.mono (Nat.zero_le _)).kp (S:=fun q=>q=b5) (by first|exact Q9n|exact Q9n.drew) (fun q hq=>(HAP.o q hq).1)
    ·(repeat (first|with_reducible refine Below.drew ?_|(with_reducible refine Below.setCell ?_ ?_ _;rotate_left;exact H5.o)))
     exact HB5.o
  ·have e0:(m !=0)=true:=by simp;omega
   have e0':(m==0)=false:=by simp;omega
   obtain⟨hm1,hm2⟩:=Yo hr
   have HR:=Q0 hr
   have HNN:=Q0 hnn
   have HCC:=Q0 hcc
   have HDB:Sc (dn.length<=1000):=⟨by have:=HLN.o;rw[HDR.o,List.length_append]at this;omega⟩
   have HDR2:Sc (l=(dn++[m])++rs'):=⟨by rw[HDR.o,List.append_assoc];rfl⟩
   obtain⟨p0,p1,p2,p3,p4,p5,lp⟩:=Q7 HZB4.o
   clear hr hnn hcc
   go_wp2_with (at_builtin;go_loud (refine wpList_append_own_at _ rfl (.tmp 24) (.tmp 26) 22 rfl w.heap.size 3 it (.int .i64 0) 1 8 Tryz.underlying22 hi hz0 hz1 hz2 rfl (by decide) _ dn.length (flat X6 dn) rfl (HO4.o.alloc _) _ 1 1 (X6 m) rfl rfl ?c1 ?c2 ?c3 ?c4 ?c5 ?_))
   case c1=>exact World.news_of_block (heap_alloc_new _ _)
   case c2=>exact Jm.one m
   case c3=>have:=HDB.o;unfold maxLen;omega
   case c4=>have:=HDB.o;omega
   case c5=>have:=HB4.o.size;simp;omega
   intro v1 w5 h1 h2 h3 h4
   have H1:Sc (Own X6 1 3 w.heap.size w5 v1 (dn++[m])):=⟨by
    unfold Own
    rw[Qc,Qm,List.length_append]
    exact h1⟩
   have HK5:=Q0 (Kp.Zl h2)
   have HAP5:Sc (∀q,v1.ownBlock=some q->q≠b5/\q≠b8):=⟨fun q hq=>by
    rcases h4 with h4|h4
    ·exact HAP.o q (by rw[<-h4];exact hq)
    ·rw[h4]at hq
     injection hq with hq
     have:=Q6 HZA4.o
     have:=Q6 HZB4.o
     omega⟩
   have HB5:Sc (Below w.heap.size w w5):=⟨(HB4.o.alloc HB4.o.size _).grown h2 (by have:=HB4.o.size;simp;omega) (fun k hk=>(HO4.o.lt k hk).1)⟩
   have HZ5A:=Q0 (HK5.o.at (upa HZA4.o _) (fun he=>(HAP.o b5 he.symm).1 rfl))
   have HZ5B:=Q0 (HK5.o.at (upa HZB4.o _) (fun he=>(HAP.o b8 he.symm).2 rfl))
   clear h1 h2 h3 h4 p0 p1 p2 p3 p4 p5 lp
   go_wp2_with fail
   refine(D7 _ lb row L 0 m (HL0.o.bel HB5.o) hlen' (by omega) (by omega)).mono ?_
   rw[HR.o]
   rintro e w6 ⟨rfl,hb⟩
   simp only[Option.getD_some,Option.isSome_some]
   have HB6:Sc (Below w.heap.size w (w6.alloc (.cells (Qe r) 49))):=⟨Q3 (Q5 HB5.o hb) _⟩
   have HQ6:Sc (Below w5.heap.size w5 (w6.alloc (.cells (Qe r) 49))):=⟨Q3 hb _⟩
   obtain⟨c0,c1,c2,c3,c4,c5,c6,c7,c8,c9⟩:=Qb (heap_alloc_new w6 (.cells (Qe r) 49))
   have d:decide (m<=r.prev)=false:=decide_eq_false (by omega)
   clear hb
   go_wp2_with fail
   refine(Q4q _ lb row L r.prev m' (HL0.o.bel HB6.o) hlen' hp0 HNN.o).mono ?_
   rintro e w7 ⟨rfl,hb⟩
   have HB7:=Q0 (Q5 HB6.o hb)
   have HQ7:=Q0 (Q5 HQ6.o hb)
   have HZ7A:=Q0 (up HQ7.o HZ5A.o)
   have HZ7B:=Q0 (up HQ7.o HZ5B.o)
   have HO7:=Q0 (H1.o.below HQ7.o)
   obtain⟨p0,p1,p2,p3,p4,p5,lp⟩:=Q7 HZ7B.o
   have HKS:Sc (Kp (fun q=>q=b8) w7 (((w7.setCell ⟨b8,0,none⟩ (.int .i64 0)).setCell ⟨b8,1,none⟩ (.bool false)).setCell ⟨b8,2,none⟩ (.int .i64 0))):=⟨Q9n⟩
   have HB8:Sc (Below w.heap.size w (((w7.setCell ⟨b8,0,none⟩ (.int .i64 0)).setCell ⟨b8,1,none⟩ (.bool false)).setCell ⟨b8,2,none⟩ (.int .i64 0))):=⟨((HB7.o.setCell H8.o _).setCell H8.o _).setCell H8.o _⟩
   have HZ8A:=Q0 (HKS.o.at HZ7A.o hne)
   have HZ8B:Sc ((((w7.setCell ⟨b8,0,none⟩ (.int .i64 0)).setCell ⟨b8,1,none⟩ (.bool false)).setCell ⟨b8,2,none⟩ (.int .i64 0)).heap[b8]? =some (.cells fz 41 (0,0))):=⟨by rw[Qn (Qn (Qn HZ7B.o 0 _) 1 _) 2 _];rfl⟩
   have HO8:=Q0 (HO7.o.kp HKS.o (fun q hq=>(HAP5.o q hq).2))
   clear hb c0 c1 c2 c3 c4 c5 c6 c7 c8 c9
   go_wp2
   go_roundg rs'.length
   case measure=>rw[List.length_cons]at hrk;omega
   case rel=>exact⟨m',dn++[m],rs',rfl,Nat.le_refl _,HCC,HDR2,HO8,HB8,HZ8A,HZ8B,HAP5⟩
end
abbrev Yx(z:Int):List Value:=[.int .u8 z]
theorem Ee:Kind Yx 1:=⟨fun _=>rfl,fun x u hu=>by simp[Yx]at hu;subst hu;rfl,by omega⟩
def dig(i:Nat)(x:Int):Int:=x / 256 ^ i % 256
theorem Y7c(i:Nat)(x:Int):0<=dig i x:=Int.emod_nonneg _ (by omega)
theorem Y7b(i:Nat)(x:Int):dig i x<256:=Int.emod_lt_of_pos _ (by omega)
def U7(b:List Int)(at_ size:Nat)(n:Int):List Int:=(List.range b.length).map fun j=>if at_<=j/\j<at_+size then dig (j - at_) n else b.getD j 0
theorem Xl(b:List Int)(at_ size:Nat)(n:Int):(U7 b at_ size n).length=b.length:=by simp[U7]
theorem Eu(b:List Int)(at_ size:Nat)(n:Int){j:Nat}(h:j<b.length):(U7 b at_ size n)[j]? =some (if at_<=j/\j<at_+size then dig (j - at_) n else b.getD j 0):=by
 unfold U7
 rw[List.getElem?_map,List.getElem?_range h];rfl
theorem X9w(b:List Int)(at_:Nat)(n:Int):U7 b at_ 0 n=b:=by
 apply List.ext_getElem?
 intro j
 rcases Nat.lt_or_ge j b.length with h|h
 ·rw[Eu b at_ 0 n h,if_neg (by omega),List.getD_eq_getElem?_getD,List.getElem?_eq_getElem h];rfl
 ·rw[List.getElem?_eq_none (by rw[Xl];exact h),List.getElem?_eq_none h]
theorem X9v(b:List Int)(at_ k:Nat)(n:Int)(h:at_+k<b.length):U7 b at_ (k+1) n=(U7 b at_ k n).set (at_+k) (dig k n):=by
 apply List.ext_getElem?
 intro j
 rw[List.getElem?_set]
 rcases Nat.lt_or_ge j b.length with hj|hj
 ·rw[Eu b at_ (k+1) n hj]
  by_cases he:at_+k=j
  ·rw[if_pos he,if_pos (by omega),if_pos (by rw[Xl];omega),show j - at_=k by omega]
  ·rw[if_neg he,Eu b at_ k n hj]
   congr 1
   by_cases h1:at_<=j/\j<at_+k
   ·rw[if_pos h1,if_pos (by omega)]
   ·rw[if_neg h1,if_neg (by omega)]
 ·rw[List.getElem?_eq_none (by rw[Xl];exact hj),if_neg (by omega),List.getElem?_eq_none (by rw[Xl];exact hj)]
def J9(b:List Int)(at_:Nat):Nat->Int
 |0=>0
 |s+1=>b.getD at_ 0+256*J9 b (at_+1) s
def Byt(b:List Int):Prop:=∀z∈b,0<=z/\z<256
theorem Byt.get{b:List Int}(h:Byt b)(j:Nat):0<=b.getD j 0/\b.getD j 0<256:=by
 rcases Nat.lt_or_ge j b.length with hj|hj
 ·rw[List.getD_eq_getElem?_getD,List.getElem?_eq_getElem hj]
  exact h _ (List.getElem_mem hj)
 ·rw[List.getD_eq_getElem?_getD,List.getElem?_eq_none hj];simp
theorem Q0l{b:List Int}(h:Byt b)(at_ size:Nat)(n:Int):Byt (U7 b at_ size n):=by
 intro z hz
 unfold U7 at hz
 rw[List.mem_map]at hz
 obtain⟨j,_,rfl⟩:=hz
 split
 ·exact⟨Y7c _ _,Y7b _ _⟩
 ·exact h.get j
theorem Dd{b:List Int}(h:Byt b)(at_ s:Nat):0<=J9 b at_ s:=by
 induction s generalizing at_ with
 |zero=>exact Int.le_refl _
 |succ s ih=>have:=ih (at_+1);have:=(h.get at_).1;unfold J9;omega
theorem Q3f{b:List Int}(h:Byt b)(at_ s:Nat):J9 b at_ s<256 ^ s:=by
 induction s generalizing at_ with
 |zero=>unfold J9;decide
 |succ s ih=>
  have h1:=ih (at_+1)
  have h2:=(h.get at_).2
  unfold J9
  rw[Int.pow_succ]
  omega
theorem Y1o(i:Nat)(x:Int):dig (i+1) x=dig i (x / 256):=by
 unfold dig
 rw[Int.pow_succ,Int.mul_comm,Int.ediv_ediv_of_nonneg (by omega)]
theorem Cx{b:List Int}{at_:Nat}{x:Int}(s:Nat)(h:∀i,i<s->b.getD (at_+i) 0=dig i x):J9 b at_ s=x % 256 ^ s:=by
 induction s generalizing at_ x with
 |zero=>simp[J9]
 |succ s ih=>
  have h0:=h 0 (by omega)
  rw[Nat.add_zero]at h0
  have h1:=ih (at_:=at_+1) (x:=x / 256) (fun i hi=>by rw[show at_+1+i=at_+(i+1) by omega,h (i+1) (by omega),Y1o])
  rw[J9,h0,h1]
  unfold dig
  rw[Int.pow_zero,Int.ediv_one,Int.pow_succ,Int.mul_comm (256 ^ s) 256,Int.emod_def (x / 256),Int.emod_def x (256*256 ^ s),Int.ediv_ediv_of_nonneg (by omega:(0:Int)<=256),Int.mul_sub,Int.mul_assoc 256]
  generalize 256 ^ s*(x / 256 / 256 ^ s)=y
  omega
theorem Q4k:(Tryz.prog.info? 5).map (fun i=>(i.zero,i.size,i.bytes))=some (some (.int .u8 0),1,1):=by kernel_rfl
def Q8r(l:List (Int))(w:World)(e:Ending)(w':World):Prop:=
 ∃v',e=.returned v'/\Own Yx 1 5 w.heap.size w' v' l/\Below w.heap.size w w'
theorem Own.Y6k{w:World}{g n cap base:Nat}{e:TypeId}{l:List Int}(h:Own Yx 1 e base w (.slice (some ⟨g,0,none⟩) n cap) l){k:Nat}{x:Int}(hx:l[k]? =some x):w.cell? ⟨g,k,none⟩=some (.int .u8 x):=by
 have:=h.cell Ee hx 0 _ rfl
 rw[Nat.mul_one,Nat.add_zero]at this
 exact this
def RdB(w:World)(v:Value)(l:List Int):Prop:=
 (l=[]/\∃A c,v=.slice A 0 c)\/∃b off cap,v=.slice (some ⟨b,off,none⟩) l.length cap/\0<l.length/\l.length<=cap/\∀k x,l[k]? =some x->w.cell? ⟨b,off+k,none⟩=some (.int .u8 x)
theorem RdB.form{w:World}{v:Value}{l:List Int}(h:RdB w v l)(hl:0<l.length):∃b off cap,v=.slice (some ⟨b,off,none⟩) l.length cap/\0<l.length/\l.length<=cap/\∀k x,l[k]? =some x->w.cell? ⟨b,off+k,none⟩=some (.int .u8 x):=by
 rcases h with ⟨rfl,_⟩|h
 ·simp at hl
 ·exact h
theorem RdB.bel{w w':World}{v:Value}{l:List Int}(h:RdB w v l)(hb:Below w.heap.size w w'):RdB w' v l:=by
 rcases h with h|⟨b,off,cap,hv,h0,h1,h2⟩
 ·exact .inl h
 ·exact .inr ⟨b,off,cap,hv,h0,h1,fun k x hx=>(hb.cell (World.block_lt_of_cell? _ _ (h2 k x hx))).trans (h2 k x hx)⟩
theorem RdB.slice{w:World}{v:Value}{l:List Int}(h:RdB w v l):∃A c,v=.slice A l.length c:=by
 rcases h with ⟨rfl,A,c,rfl⟩|⟨b,off,cap,rfl,_⟩
 ·exact⟨_,_,rfl⟩
 ·exact⟨_,_,rfl⟩
theorem Own.rd{w:World}{base:Nat}{e:TypeId}{v:Value}{l:List Int}(h:Own Yx 1 e base w v l):RdB w v l:=by
 rcases Nat.eq_zero_or_pos l.length with h0|h0
 ·obtain⟨A,c,rfl,_,_⟩:=h.slice
  rw[h0]
  exact .inl ⟨List.eq_nil_of_length_eq_zero h0,_,_,rfl⟩
 ·obtain⟨g,cap,rfl,_,_,hn,_⟩:=h.form h0
  exact .inr ⟨g,0,cap,rfl,h0,hn,fun k x hx=>by rw[Nat.zero_add];exact h.Y6k hx⟩
set_option maxRecDepth 4000 in
set_option maxHeartbeats 1000000 in
theorem Gg(w:World)(v:Value)(l:List Int)(hown:RdB w v l)(hlen:l.length<=1000000):
  Calls Tryz.prog 131 #[v] w (Q8r l w):=by
 obtain⟨i0,hi,hz0,hz1,hz2⟩:=info_parts Q4k
 obtain⟨A,cap,rfl⟩:=hown.slice
 obtain⟨n,hn⟩:∃n,l.length=n:=⟨_,rfl⟩
 rw[hn]at hown hlen ⊢
 have HN:=Q0 hn
 have HO:=Q0 hown
 clear hown hn
 go_enter Tryz.func131,Tryz.ntmps131
 go_wp2_with (at_make;refine wpList_make_own _ rfl _ _ 155 rfl w.heap.size 5 i0 (.int .u8 0) 1 Tryz.underlying155 hi hz0 hz1 .i64 .i64 _ n rfl rfl rfl ?b1 ?b2 (Nat.le_refl _) ?_)
 case b1=>rw[hz2];omega
 case b2=>unfold maxLen;omega
 intro w1 hown1 hg1
 have HO1:Sc (Own Yx 1 5 w.heap.size w1 (.slice (some ⟨w.heap.size,0,none⟩) 0 n) ([]:List Int)):=⟨hown1⟩
 have HB1:Sc (Below w.heap.size w w1):=⟨Gq hg1⟩
 clear hown1 hg1
 go_wp2
 go_loopg [3,4] n (fun kx s3 s4 wr=>∃i:Nat,s4=.int .i64 i/\i<=n/\n - i<=kx/\Sc (Below w.heap.size w wr)/\Sc (Own Yx 1 5 w.heap.size wr s3 (l.take i)))
 case atStart=>exact⟨0,rfl,by omega,by omega,HB1,⟨by rw[List.take_zero];exact HO1.o⟩⟩
 case round=>
  obtain⟨i,rfl,hin,hg,HB,HR⟩:=hrel
  by_cases hlt:i<n
  ·obtain⟨x,hx⟩:∃x,l[i]? =some x:=⟨_,List.getElem?_eq_getElem (by rw[HN.o];exact hlt)⟩
   obtain⟨g,off,c2,he,_,_,hcs⟩:=(HO.o.bel HB.o).form (by rw[HN.o];omega)
   injection he with hA hn2 hC
   subst hA
   have c0:=hcs i x hx
   have hnext:l.take (i+1)=l.take i++[x]:=by rw[List.take_add_one,hx];rfl
   have HX:=Q0 hnext
   have HT:Sc ((l.take i).length=i):=⟨by rw[List.length_take,HN.o];omega⟩
   have hil:(i:Int)<n:=by omega
   clear hx hcs hnext hn2 hC
   go_wp2_with (at_builtin;(refine wpList_append_own_at _ rfl (.tmp 14) (.tmp 19) 155 rfl w.heap.size 5 i0 (.int .u8 0) 1 1 Tryz.underlying155 hi hz0 hz1 hz2 rfl (by decide) _ (l.take i).length (flat Yx (l.take i)) rfl (HR.o.alloc _) _ 1 1 (Yx x) rfl rfl ?c1 ?c2 ?c3 ?c4 ?c5 ?_))
   case c1=>exact World.news_of_block (heap_alloc_new _ _)
   case c2=>exact Ee.one x
   case c3=>rw[HT.o];unfold maxLen;omega
   case c4=>rw[HT.o];omega
   case c5=>have:=HB.o.size;simp;omega
   intro v1 w2 h1 h2 h3 h4
   have H1:Sc (Own Yx 1 5 w.heap.size w2 v1 (l.take (i+1))):=⟨by
    rw[HX.o]
    unfold Own
    rw[Qc,Qm,List.length_append,List.length_take]
    exact h1⟩
   have H2:Sc (Below w.heap.size w w2):=⟨(HB.o.alloc HB.o.size _).grown h2 (by have:=HB.o.size;simp;omega) (fun k hk=>(HR.o.lt k hk).1)⟩
   clear h1 h2 h3 h4 HR HB c0
   go_wp2
   go_roundg (n - (i+1))
   case measure=>omega
   case rel=>exact⟨i+1,by go_num,by omega,Nat.le_refl _,H2,H1⟩
  ·obtain rfl:i=n:=by omega
   have HE:Sc (l.take i=l):=⟨by rw[<-HN.o,List.take_length]⟩
   go_wp2
   go_ret
   exact⟨_,rfl,by have:=HR.o;rwa [HE.o]at this,HB.o⟩
section
set_option maxHeartbeats 4000000
set_option maxRecDepth 4000
theorem Q4l:(Tryz.prog.info? 227).map (fun i=>(i.zero,i.size,i.bytes))=some (some (.agg #[.int .i64 0,.int .i64 0]),2,16):=by kernel_rfl
abbrev Zn(n:Int)(v:Value):Value:=.agg #[.int .i64 n,v]
def O9(n:Int)(l:List (Int×Int))(b:Bool)(w:World)(e:Ending)(w':World):Prop:=
 ∃A k c,e=.returned (.tuple #[Zn n (.slice A k c),.bool b])/\Own Qj 2 227 w.heap.size w' (.slice A k c) l/\Below w.heap.size w w'
structure Zx(w wx:World)(b:Nat)(n:Int)(v:Value)(l:List (Int×Int)):Prop where
 below:Below w.heap.size w wx
 new:w.heap.size<=b
 cells:wx.heap[b]? =some (.cells #[.int .i64 n,v] 197 (0,0))
 own:Own Qj 2 227 w.heap.size wx v l
 apart:v.ownBlock≠some b
theorem Qf{w:World}{b:Nat}{v u:Value}{t:TypeId}(h:w.heap[b]? =some (.cells #[v,u] t (0,0))):w.cell? ⟨b,0,none⟩=some v/\w.cell? ⟨b,1,none⟩=some u:=by simp[World.cell?,h]
theorem Own.low{α:Type}{enc:α->List Value}{sz:Nat}{e:TypeId}{base:Nat}{w:World}{v:Value}{l:List α}(h:Own enc sz e base w v l){a:Addr}(ha:a.block+1<=base)(u:Value):Own enc sz e base (w.setCell a u) v l:=
 h.kp (Kp.setCell w a u) (fun q hq he=>by have:=(h.lt q hq).1;omega)
theorem Zx.made{w w2:World}{b:Nat}{n:Int}{v:Value}{l:List (Int×Int)}(hb:Below w.heap.size w w2)(ho:Own Qj 2 227 b w2 v l)(hle:w.heap.size<=b):
  Zx w (w2.alloc (.cells #[.int .i64 n,v] 197)) w2.heap.size n v l:=
 ⟨hb.alloc hb.size _,hb.size,heap_alloc_new _ _,(ho.mono hle).alloc _,fun he=>by have:=(ho.lt _ he).2;omega⟩
theorem Et{w wc:World}{z base:Nat}{v u0 u1:Value}{l:List (Int×Int)}(hb:Below w.heap.size w wc)(ho:Own Qj 2 227 base wc v l)(hz:w.heap.size<=z)(hzb:z<base):
  Own Qj 2 227 w.heap.size ((wc.setCell ⟨z,0,none⟩ u0).setCell ⟨z,1,none⟩ u1) v l/\Below w.heap.size w ((wc.setCell ⟨z,0,none⟩ u0).setCell ⟨z,1,none⟩ u1):=by
 have hne:v.ownBlock≠some z:=fun he=>by have:=(ho.lt _ he).1;omega
 exact⟨((ho.mono (by omega)).kp (Kp.setCell wc ⟨z,0,none⟩ _) (fun q hq he=>hne (by rw[hq,he]))).kp (Kp.setCell _ ⟨z,1,none⟩ _) (fun q hq he=>hne (by rw[hq,he])),(hb.setCell hz _).setCell hz _⟩
def Jl(n:Int)(l:List (Int×Int))(p f:Int)(w:World)(e:Ending)(w':World):Prop:=
 if has l p=true\/l.length<20 then O9 n (Qt l (p,f)) true w e w' else O9 0 [] false w e w'
theorem Jl.yes{n:Int}{l:List (Int×Int)}{p f:Int}{w w':World}{e:Ending}(h:has l p=true\/l.length<20)(hp:O9 n (Qt l (p,f)) true w e w'):Jl n l p f w e w':=by
 unfold Jl;rw[if_pos h];exact hp
theorem Jl.no{n:Int}{l:List (Int×Int)}{p f:Int}{w w':World}{e:Ending}(h:¬(has l p=true\/l.length<20))(hp:O9 0 [] false w e w'):Jl n l p f w e w':=by
 unfold Jl;rw[if_neg h];exact hp
theorem Jl.fits{n:Int}{l:List (Int×Int)}{p f:Int}{w w':World}{e:Ending}(h:has l p=true\/l.length<20)(hp:Jl n l p f w e w'):O9 n (Qt l (p,f)) true w e w':=by
 unfold Jl at hp;rw[if_pos h]at hp;exact hp
abbrev G2(r:Q9)(lsn last next:Int):Q9:=⟨3,r.txn,r.page,last,next,r.key,true,r.had,lsn,r.old⟩
theorem Ym(w:World)(o1 o2:Obj):((w.alloc o1).alloc o2).heap[w.heap.size]? =some o1/\((w.alloc o1).alloc o2).heap[w.heap.size+1]? =some o2:=by
 have s1:(w.alloc o1).heap.size=w.heap.size+1:=by simp
 exact⟨by rw[heap_alloc_old _ _ (by omega),heap_alloc_new],by rw[<-s1,heap_alloc_new]⟩
theorem X7m(w:World)(o1 o2 o3:Obj):(((w.alloc o1).alloc o2).alloc o3).heap[w.heap.size]? =some o1/\(((w.alloc o1).alloc o2).alloc o3).heap[w.heap.size+1]? =some o2/\(((w.alloc o1).alloc o2).alloc o3).heap[w.heap.size+1+1]? =some o3:=by
 have s1:(w.alloc o1).heap.size=w.heap.size+1:=by simp
 have s2:((w.alloc o1).alloc o2).heap.size=w.heap.size+1+1:=by simp
 refine⟨?_,?_,?_⟩
 ·rw[heap_alloc_old _ _ (by omega),heap_alloc_old _ _ (by omega),heap_alloc_new]
 ·rw[heap_alloc_old _ _ (by omega),<-s1,heap_alloc_new]
 ·rw[<-s2,heap_alloc_new]
theorem Q7y{w:World}{b:Nat}{r:Q9}{t:TypeId}(h:w.heap[b]? =some (.cells (Qe r) t (0,0))):
  w.cell? ⟨b,0,none⟩=some (.int .i64 r.kind)/\w.cell? ⟨b,5,none⟩=some (.int .i64 r.key)/\w.cell? ⟨b,7,none⟩=some (.bool r.has)/\w.cell? ⟨b,9,none⟩=some (.int .i64 r.new):=by simp[World.cell?,h]
def Y1i(l:List (Int×Int))(p:Int)(i:Nat):Prop:=∀j x,j<i->l[j]? =some x->x.1≠p
theorem Vk(w:World)(base:Nat)(n0:Int)(v:Value)(l:List (Int×Int))(p:Int)(hown:Own Qj 2 227 base w v l)(hr:Qd l)(hlen:l.length<=1000000):
  Calls Tryz.prog 100 #[Zn n0 v,.int .i64 p] w fun e w'=>e=.returned (.tuple #[.int .i64 ((look l p).getD 0),.bool (has l p)])/\Below w.heap.size w w':=by
 obtain⟨A,cap,rfl,hnc,hcm⟩:=hown.slice
 obtain⟨n,hn⟩:∃n,l.length=n:=⟨_,rfl⟩
 rw[hn]at hown hlen ⊢
 have HN:=Q0 hn
 have HO:=Q0 hown
 have HR:=Q0 hr
 clear hown hr hn hnc
 go_enter Tryz.func100,Tryz.ntmps100
 go_wp2
 go_loop [4,5,6] (fun s4 s5 s6=>∃i:Nat,s4=.int .i64 0/\s5=.bool false/\s6=.int .i64 i/\i<=n/\Sc (Y1i l p i)) (fun _ _ s6=>n - (intOf s6).toNat)
 case atStart=>exact⟨0,rfl,rfl,rfl,by omega,⟨fun j x hj=>absurd hj (Nat.not_lt_zero _)⟩⟩
 case round=>
  obtain⟨i,rfl,rfl,rfl,hi,HI⟩:=hrel
  by_cases hlt:i<n
  ·obtain⟨x,hx⟩:∃x,l[i]? =some x:=⟨_,List.getElem?_eq_getElem (by rw[HN.o];exact hlt)⟩
   obtain⟨g,cq,he,_,hgw,_,_⟩:=HO.o.form (by rw[HN.o];omega)
   injection he with hA hn2 hC
   subst hA
   obtain⟨d0,d1⟩:=HO.o.Xb hx
   have HX:=Q0 hx
   have hil:(i:Int)<n:=by omega
   clear hx hC hn2
   by_cases hp:x.1=p
   ·have hb:(x.1==p)=true:=by simp[hp]
    have HL:Sc (look l p=some x.2/\has l p=true):=⟨by rw[<-hp];exact⟨Q2f HR.o (List.mem_of_getElem? HX.o),Gd HX.o⟩⟩
    clear hp
    go_wp2
    go_ret2
    exact⟨by rw[HL.o.1,HL.o.2];rfl,(Below.refl _ _).alloc (Nat.le_refl _) _⟩
   ·have hb:(x.1==p)=false:=by simp[hp]
    have HJ:Sc (Y1i l p (i+1)):=⟨fun j y hj hy=>by
     rcases Nat.lt_succ_iff_lt_or_eq.1 hj with h|h
     ·exact HI.o j y h hy
     ·subst h;have h1:=HX.o;rw[hy]at h1;injection h1 with h1;subst h1;exact hp⟩
    clear hp
    go_wp2
    go_round
    case rel=>exact⟨i+1,rfl,rfl,by go_num,by omega,HJ⟩
    case measure=>simp[intOf];omega
  ·obtain rfl:i=n:=by omega
   have HL:Sc (has l p=false):=⟨by
    cases hh:has l p with
    |false=>rfl
    |true=>
     obtain⟨x,hx,hk⟩:=Qy.1 hh
     obtain⟨j,hj⟩:=List.mem_iff_getElem?.1 hx
     exact absurd hk (HI.o j x (by rw[<-HN.o];exact(List.getElem?_eq_some_iff.1 hj).1) hj)⟩
   have HL2:Sc (look l p=none):=⟨by unfold look;rw[if_neg (by rw[HL.o];exact Bool.false_ne_true)]⟩
   go_wp2
   go_ret2
   exact⟨by rw[HL.o,HL2.o];rfl,(Below.refl _ _).alloc (Nat.le_refl _) _⟩
theorem Zx.append{w wr w2:World}{b g cap:Nat}{n:Int}{v:Value}{l:List (Int×Int)}{x:Int×Int}{o:Obj}(h:Zx w wr b n v l)
  (hown:w2.ownsRow w.heap.size 227 2 (.slice (some ⟨g,0,none⟩) (l.length+1) cap) (l.length+1) (flat Qj l++Qj x)) (hg:(wr.alloc o).grownBy w2 v.ownBlock) (hat:v.ownBlock=some g\/g=wr.heap.size+1):
  w2.heap[b]? =some (.cells #[.int .i64 n,v] 197 (0,0))/\Zx w (w2.setCell ⟨b,1,none⟩ (.slice (some ⟨g,0,none⟩) (l.length+1) cap)) b n (.slice (some ⟨g,0,none⟩) (l.length+1) cap) (l++[x]):=by
 have hb:=Q6 h.cells
 have hc:w2.heap[b]? =some (.cells #[.int .i64 n,v] 197 (0,0)):=
  (hg.block b (by simp;omega) (fun he=>h.apart he.symm)).trans ((heap_alloc_old wr _ hb).trans h.cells)
 have hne:(Value.slice (some ⟨g,0,none⟩) (l.length+1) cap).ownBlock≠some b:=by
  intro he
  injection he with he
  replace he:g=b:=he
  rcases hat with hat|hat
  ·exact h.apart (by rw[hat,he])
  ·omega
 refine⟨hc,((h.below.alloc h.below.size o).grown hg (by have:=h.below.size;simp;omega) (fun q hq=>(h.own.lt q hq).1)).setCell h.new _,h.new,?_,?_,hne⟩
 ·rw[Qn hc 1 _];rfl
 ·exact(Own.Qv hown (by simp) (by rw[Qc,Qm])).kp (Kp.setCell w2 ⟨b,1,none⟩ _) (fun q hq he=>hne (by rw[hq,he]))
theorem Zp{w w2:World}{r:Option Nat}(h:w.drew.grownBy w2 r):w.grownBy w2 r:=⟨h.os,h.tape,h.output,h.size,h.block⟩
def Vh(l:List (Int×Int))(p:Int):List (Int×Int):=l.filter fun x=>decide (x.1≠p)
theorem X2i{l:List (Int×Int)}(hr:Qd l)(p:Int):Vh l p=X4 l p:=by
 unfold Vh
 induction l with
 |nil=>rfl
 |cons x r ih=>
  by_cases hx:x.1=p
  ·subst hx
   rw[drop'_head hr,List.filter_cons_of_neg (by simp)]
   apply List.filter_eq_self.2
   intro y hy
   have:=hr.head y hy
   simp;omega
  ·rw[List.filter_cons_of_pos (by simpa using hx),ih hr.tail]
   cases hh:has r p with
   |false=>
    have:has (x::r) p=false:=by unfold has at hh ⊢;rw[List.any_cons,hh];simpa using hx
    rw[drop'_no hh,drop'_no this]
   |true=>
    have h2:has (x::r) p=true:=by unfold has at hh ⊢;rw[List.any_cons,hh];simp
    obtain⟨y,hy,hk⟩:=Qy.1 hh
    have hxp:x.1<p:=by have:=hr.head y hy;omega
    have hp:pos (x::r) p=pos r p+1:=by unfold pos;rw[List.countP_cons_of_pos (by simpa using hxp)]
    rw[drop'_yes hh,drop'_yes h2,hp];rfl
theorem Du(w:World)(base:Nat)(n0:Int)(v:Value)(l:List (Int×Int))(p:Int)(hown:Own Qj 2 227 base w v l)(hr:Qd l)(hlen:l.length<=1000000):
  Calls Tryz.prog 174 #[Zn n0 v,.int .i64 p] w (O9 n0 (X4 l p) (has l p) w):=by
 obtain⟨i0,hi,hz0,hz1,hz2⟩:=info_parts Q4l
 obtain⟨A,cap,rfl,hnc,hcm⟩:=hown.slice
 obtain⟨n,hn⟩:∃n,l.length=n:=⟨_,rfl⟩
 rw[hn]at hown hlen ⊢
 have HN:=Q0 hn
 have HOA:Sc (Own Qj 2 227 base ((w.alloc (.cells #[.int .i64 n0,.slice A n cap] 197)).alloc (.cells #[.int .i64 0,.slice none 0 0] 197)) (.slice A n cap) l):=⟨(hown.alloc _).alloc _⟩
 have HBW:Sc (Below w.heap.size w ((w.alloc (.cells #[.int .i64 n0,.slice A n cap] 197)).alloc (.cells #[.int .i64 0,.slice none 0 0] 197))):=⟨((Below.refl _ _).alloc (Nat.le_refl _) _).alloc (by simp) _⟩
 have H2:=Q0 (Ym w (.cells #[.int .i64 n0,.slice A n cap] 197) (.cells #[.int .i64 0,.slice none 0 0] 197))
 have HR:=Q0 hr
 have HLN:Sc (l.length<=1000000):=⟨by omega⟩
 clear hown hr hn hnc
 go_enter Tryz.func174,Tryz.ntmps174
 go_wp2_with fail
 refine(Vk _ base n0 _ l p HOA.o HR.o HLN.o).mono ?_
 rintro e w1 ⟨rfl,hb1⟩
 have HB1:=Q0 ((hb1.block _ (Q6 H2.o.1)).trans H2.o.1)
 have HZ1:=Q0 ((hb1.block _ (Q6 H2.o.2)).trans H2.o.2)
 have HO1:Sc (Own Qj 2 227 base w1 (.slice A n cap) l):=⟨HOA.o.below hb1⟩
 have HW1:Sc (Below w.heap.size w w1):=⟨HBW.o.trans (hb1.mono HBW.o.size)⟩
 obtain⟨p0,p1⟩:=Qf HB1.o
 have l1:=Q6 HB1.o
 have l2:=Q6 HZ1.o
 clear hb1
 go_wp2_with fail
 go_loopg [9] n (fun kx s9 wr=>∃(i:Nat) (v8:Value),s9=.int .i64 i/\i<=n/\n - i<=kx/\Sc (Zx w1 wr w1.heap.size n0 v8 (Vh (l.take i) p)))
 case atStart=>exact⟨0,.slice none 0 0,rfl,by omega,by omega,⟨Zx.made (Below.refl _ _) Own.nil (Nat.le_refl _)⟩⟩
 case round=>
  obtain⟨i,v8,rfl,hin,hg,HP⟩:=hrel
  by_cases hlt:i<n
  ·obtain⟨x,hx⟩:∃x,l[i]? =some x:=⟨_,List.getElem?_eq_getElem (by rw[HN.o];exact hlt)⟩
   obtain⟨g,cq,he,_,hgw,_,_⟩:=HO1.o.form (by rw[HN.o];omega)
   injection he with hA hn2 hC
   subst hA
   obtain⟨d0,d1⟩:=(HO1.o.below HP.o.below).Xb hx
   obtain⟨A8,k8,c8,rfl⟩:=HP.o.own.slice3
   obtain⟨e0,e1⟩:=Qf HP.o.cells
   have f1:=Q2 HP.o.cells 1
   obtain⟨q0,q1⟩:=Qf ((HP.o.below.block _ l1).trans HB1.o)
   have hT:l.take (i+1)=l.take i++[x]:=by rw[List.take_add_one,hx];rfl
   have hil:(i:Int)<n:=by omega
   have lb:=Q6 HP.o.cells
   by_cases hp:x.1=p
   ·have hb:(x.1 !=p)=false:=by simp[hp]
    have HP2:Sc (Zx w1 wr w1.heap.size n0 (.slice A8 k8 c8) (Vh (l.take (i+1)) p)):=⟨by
     have:Vh (l.take (i+1)) p=Vh (l.take i) p:=by unfold Vh;rw[hT,List.filter_append];simp[hp]
     rw[this];exact HP.o⟩
    clear hp hx hn2 hC hT p0 p1 HP
    go_wp2
    go_roundg (n - (i+1))
    case measure=>omega
    case rel=>exact⟨i+1,_,by go_num,by omega,Nat.le_refl _,HP2⟩
   ·have hb:(x.1 !=p)=true:=by simp[hp]
    obtain⟨m,hm⟩:∃m,Vh (l.take i) p=m:=⟨_,rfl⟩
    rw[hm]at HP
    have HM:Sc (Vh (l.take (i+1)) p=m++[x]):=⟨by rw[<-hm];unfold Vh;rw[hT,List.filter_append];simp[hp]⟩
    have HML:Sc (m.length<=1000000):=⟨by
     have h1:m.length<=(l.take i).length:=by rw[<-hm];exact List.length_filter_le _ _
     rw[List.length_take]at h1;omega⟩
    have HA2:Sc (m.length+1<=maxLen):=⟨by have:=HML.o;unfold maxLen;omega⟩
    have HA3:Sc ((m.length+1)*16<=140737488355328):=⟨by have:=HML.o;omega⟩
    have hi0':(0:Int)<=(i:Int):=Int.natCast_nonneg _
    have HLW:Sc (w1.heap.size<=wr.heap.size):=⟨HP.o.below.size⟩
    clear hp hx hn2 hC hT p0 p1 hm
    go_wp2_with fail
    go_region_law (go_loud (refine step_append_lies _ (by rfl) (.tmp 35) (.tmp 41) 195 (by rfl) w1.heap.size 227 i0 (.agg #[.int .i64 0,.int .i64 0]) 2 16 Tryz.underlying195 hi hz0 hz1 hz2 rfl (by decide) _ m.length (flat Qj m) (by rfl) ((HP.o.own.alloc _).drew) ⟨wr.heap.size,0,none⟩ 1 1 (Qj x) (by rfl) (by rfl) (World.news_of_block (heap_alloc_new wr (.cells (Qj x).toArray 227))) (Xh.one x) Nat.one_pos HA2.o HA3.o (by have:=HLW.o;simp;omega) (wr.heap.size+1) (by simp) ?_;intro ge ce we h1 h2 h3 h4;obtain⟨hce,hpv⟩:=HP.o.append h1 (Zp h2) h3;have c1:=(Qf hce).2;have f2:=Q2 hce 1;have HPV:=Q0 hpv;clear h1 h2 h3 h4 hce hpv))
    all_goals
     go_wp2
     go_roundg (n - (i+1))
     case measure=>omega
     case rel=>exact⟨i+1,_,by go_num,by omega,Nat.le_refl _,⟨by rw[HM.o];exact HPV.o⟩⟩
  ·obtain rfl:i=n:=by omega
   have HE:Sc (Vh (l.take i) p=X4 l p):=⟨by rw[<-HN.o,List.take_length];exact X2i HR.o p⟩
   obtain⟨A8,k8,c8,rfl⟩:=HP.o.own.slice3
   obtain⟨e0,e1⟩:=Qf HP.o.cells
   have hz:=(HP.o.below.block _ l2).trans HZ1.o
   obtain⟨z0,z1⟩:=Qf hz
   have y0:=Q2 hz 0
   have y1:=Q2 hz 1
   obtain⟨q0,q1⟩:=Qf ((HP.o.below.block _ l1).trans HB1.o)
   clear hz p0 p1
   go_wp2
   refine bodyPost_ret (v:=.tuple #[Zn n0 (.slice A8 k8 c8),.bool (has l p)]) (by simp[results,Tryz.results174,go_sem,z0,z1]) rfl ⟨A8,k8,c8,rfl,?_⟩
   rw[<-HE.o]
   exact Et (HW1.o.trans (HP.o.below.mono HW1.o.size)) HP.o.own (Nat.le_succ _) l2
def Z8(p f:Int)(s:Bool×List (Int×Int))(x:Int×Int):Bool×List (Int×Int):=
 (s.1||decide (p<=x.1),(if s.1=false/\p<=x.1 then s.2++[(p,f)] else s.2)++if x.1=p then [] else [x])
def Y4k(p f:Int)(s:Bool×List (Int×Int)):List (Int×Int):=if s.1=true then s.2 else s.2++[(p,f)]
theorem Q5n(p f:Int)(l o:List (Int×Int)):l.foldl (Z8 p f) (true,o)=(true,o++Vh l p):=by
 induction l generalizing o with
 |nil=>simp[Vh]
 |cons x r ih=>
  rw[List.foldl_cons]
  have hs:Z8 p f (true,o) x=(true,o++if x.1=p then [] else [x]):=by simp[Z8]
  rw[hs,ih]
  unfold Vh
  by_cases hx:x.1=p
  ·rw[if_pos hx,List.filter_cons_of_neg (by simpa using hx)];simp
  ·rw[if_neg hx,List.filter_cons_of_pos (by simpa using hx)];simp
theorem Q0i{l:List (Int×Int)}{p:Int}(h:∀y∈l,p<y.1):Vh l p=l:=
 List.filter_eq_self.2 fun y hy=>by have:=h y hy;simp;omega
theorem Q6x{x:Int×Int}{r:List (Int×Int)}{p f:Int}(hx:x.1<p):Qt (x::r) (p,f)=x::Qt r (p,f):=by
 have hp:pos (x::r) p=pos r p+1:=by unfold pos;rw[List.countP_cons_of_pos (by simpa using hx)]
 have hh:has (x::r) p=has r p:=by unfold has;rw[List.any_cons];simp;omega
 unfold Qt
 show(if has (x::r) p=true then(x::r).set (pos (x::r) p) (p,f) else put (x::r) (p,f))=x::(if has r p=true then r.set (pos r p) (p,f) else put r (p,f))
 rw[hh,hp]
 split
 ·rfl
 ·unfold put
  show(x::r).take (pos (x::r) p)++(p,f)::(x::r).drop (pos (x::r) p)=x::(r.take (pos r p)++(p,f)::r.drop (pos r p))
  rw[hp];rfl
theorem X4t{l:List (Int×Int)}(hr:Qd l)(p f:Int)(o:List (Int×Int)):Y4k p f (l.foldl (Z8 p f) (false,o))=o++Qt l (p,f):=by
 induction l generalizing o with
 |nil=>rfl
 |cons x r ih=>
  rw[List.foldl_cons]
  rcases Int.lt_trichotomy x.1 p with h|h|h
  ·have hs:Z8 p f (false,o) x=(false,o++[x]):=by
    have h1:¬p<=x.1:=by omega
    have h2:¬x.1=p:=by omega
    simp[Z8,h1,h2]
   rw[hs,ih hr.tail,Q6x h]
   simp
  ·have hs:Z8 p f (false,o) x=(true,o++[(p,f)]):=by
    have h1:p<=x.1:=by omega
    simp[Z8,h]
   have hp:pos (x::r) p=0:=by
    have:=J0 hr p (t:=0) (x:=x) rfl
    omega
   have hh:has (x::r) p=true:=by unfold has;rw[List.any_cons];simp[h]
   rw[hs,Q5n,Q0i (fun y hy=>by have:=hr.head y hy;omega)]
   unfold Y4k Qt
   show(if true=true then _ else _)=o++(if has (x::r) p=true then(x::r).set (pos (x::r) p) (p,f) else _)
   rw[if_pos rfl,if_pos hh,hp]
   simp
  ·have hs:Z8 p f (false,o) x=(true,o++[(p,f),x]):=by
    have h1:p<=x.1:=by omega
    have h2:¬x.1=p:=by omega
    simp[Z8,h1,h2]
   have hp:pos (x::r) p=0:=by
    have:=J0 hr p (t:=0) (x:=x) rfl
    omega
   have hh:has (x::r) p=false:=by
    cases hc:has (x::r) p with
    |false=>rfl
    |true=>
     obtain⟨y,hy,hk⟩:=Qy.1 hc
     rcases List.mem_cons.1 hy with rfl|hy
     ·omega
     ·have:=hr.head y hy;omega
   rw[hs,Q5n,Q0i (fun y hy=>by have:=hr.head y hy;omega)]
   unfold Y4k Qt
   show(if true=true then _ else _)=o++(if has (x::r) p=true then _ else put (x::r) (p,f))
   rw[if_pos rfl,if_neg (by rw[hh];simp)]
   unfold put
   show _=o++((x::r).take (pos (x::r) p)++(p,f)::(x::r).drop (pos (x::r) p))
   rw[hp]
   simp
theorem X0f(p f:Int)(l:List (Int×Int)):(l.foldl (Z8 p f) (false,[])).2.length<=2*l.length:=by
 have h:∀(l:List (Int×Int)) (s:Bool×List (Int×Int)),(l.foldl (Z8 p f) s).2.length<=s.2.length+2*l.length:=by
  intro l
  induction l with
  |nil=>intro s;simp
  |cons x r ih=>
   intro s
   rw[List.foldl_cons]
   have h1:=ih (Z8 p f s x)
   have h2:(Z8 p f s x).2.length<=s.2.length+2:=by
    unfold Z8
    simp only[List.length_append]
    split<;>split<;>simp
   rw[List.length_cons]
   omega
 simpa using h l (false,[])
theorem X6b(w:World)(base:Nat)(n0:Int)(v:Value)(l:List (Int×Int))(p f:Int)(hown:Own Qj 2 227 base w v l)(hr:Qd l)(hlen:l.length<=100000):
  Calls Tryz.prog 175 #[Zn n0 v,.int .i64 p,.int .i64 f] w (Jl n0 l p f w):=by
 obtain⟨i0,hi,hz0,hz1,hz2⟩:=info_parts Q4l
 obtain⟨A,cap,rfl,hnc,hcm⟩:=hown.slice
 obtain⟨n,hn⟩:∃n,l.length=n:=⟨_,rfl⟩
 rw[hn]at hown hlen ⊢
 have HN:=Q0 hn
 have HOA:Sc (Own Qj 2 227 base ((w.alloc (.cells #[.int .i64 n0,.slice A n cap] 197)).alloc (.cells #[.int .i64 0,.slice none 0 0] 197)) (.slice A n cap) l):=⟨(hown.alloc _).alloc _⟩
 have HBW:Sc (Below w.heap.size w ((w.alloc (.cells #[.int .i64 n0,.slice A n cap] 197)).alloc (.cells #[.int .i64 0,.slice none 0 0] 197))):=⟨((Below.refl _ _).alloc (Nat.le_refl _) _).alloc (by simp) _⟩
 have H2:=Q0 (Ym w (.cells #[.int .i64 n0,.slice A n cap] 197) (.cells #[.int .i64 0,.slice none 0 0] 197))
 have HR:=Q0 hr
 have HLN:Sc (l.length<=1000000):=⟨by omega⟩
 clear hown hr hn hnc
 go_enter Tryz.func175,Tryz.ntmps175
 go_wp2_with fail
 refine(Vk _ base n0 _ l p HOA.o HR.o HLN.o).mono ?_
 rintro e w1 ⟨rfl,hb1⟩
 have HB1:=Q0 ((hb1.block _ (Q6 H2.o.1)).trans H2.o.1)
 have HZ1:=Q0 ((hb1.block _ (Q6 H2.o.2)).trans H2.o.2)
 have HO1:Sc (Own Qj 2 227 base w1 (.slice A n cap) l):=⟨HOA.o.below hb1⟩
 have HW1:Sc (Below w.heap.size w w1):=⟨HBW.o.trans (hb1.mono HBW.o.size)⟩
 obtain⟨p0,p1⟩:=Qf HB1.o
 have l1:=Q6 HB1.o
 have l2:=Q6 HZ1.o
 clear hb1
 by_cases hfull:has l p=false/\20<=n
 ·obtain⟨hh,hn20⟩:=hfull
  have HF:Sc (¬(has l p=true\/l.length<20)):=⟨by rw[hh,HN.o];simp;omega⟩
  obtain⟨z0,z1⟩:=Qf HZ1.o
  have y0:=Q2 HZ1.o 0
  have y1:=Q2 HZ1.o 1
  have hn20':(20:Int)<=n:=by omega
  clear hn20
  go_wp2
  refine bodyPost_ret (v:=.tuple #[Zn 0 (.slice none 0 0),.bool false]) (by simp[results,Tryz.results175,go_sem,z0,z1]) rfl (Jl.no HF.o ⟨_,_,_,rfl,?_⟩)
  exact Et HW1.o (Own.nil (base:=w1.heap.size)) (Nat.le_succ _) l2
 ·have HF:Sc (has l p=true\/l.length<20):=⟨by
   cases hh:has l p with
   |true=>exact .inl rfl
   |false=>exact .inr (by rw[HN.o];have:¬20<=n:=fun h=>hfull ⟨hh,h⟩;omega)⟩
  have HG:Sc (has l p=true\/has l p=false/\¬(20:Int)<=n):=⟨by
   cases hh:has l p with
   |true=>exact .inl rfl
   |false=>exact .inr ⟨rfl,by have:¬20<=n:=fun h=>hfull ⟨hh,h⟩;omega⟩⟩
  clear hfull
  go_upto_region 2 with fail
  go_cut [26] from 19 to 26 (fun s26 wx=>s26=.bool false/\w1=wx)
  case first=>
   rcases HG.o with hh|⟨hh,hn20⟩
   all_goals
    clear HG
    go_wp2_with fail
    go_meet
    case rel=>exact⟨by first|rfl|simp[hn20],rfl⟩
  case rest=>
   obtain⟨rfl,rfl⟩:=hcut
   go_wp2_with fail
   go_loopg [11,12] n (fun kx s11 s12 wr=>∃(i:Nat) (b:Bool) (m:List (Int×Int)) (A8:Option Addr) (k8 c8:Nat),s12=.int .i64 i/\s11=.bool b/\i<=n/\n - i<=kx/\Sc ((l.take i).foldl (Z8 p f) (false,[])=(b,m))/\Sc (Zx w1 wr w1.heap.size n0 (.slice A8 k8 c8) m))
   case atStart=>exact⟨0,false,[],none,0,0,rfl,rfl,by omega,by omega,⟨rfl⟩,⟨Zx.made (Below.refl _ _) Own.nil (Nat.le_refl _)⟩⟩
   case round=>
    obtain⟨i,b,m,A8,k8,c8,rfl,rfl,hin,hg,HF2,HP⟩:=hrel
    have HML:Sc (m.length<=200000):=⟨by
     have h1:=X0f p f (l.take i)
     rw[HF2.o,List.length_take]at h1
     simp only[]at h1
     omega⟩
    have HA2:Sc (m.length+1<=maxLen):=⟨by have:=HML.o;unfold maxLen;omega⟩
    have HA3:Sc ((m.length+1)*16<=140737488355328):=⟨by have:=HML.o;omega⟩
    have HLW:Sc (w1.heap.size<=wr.heap.size):=⟨HP.o.below.size⟩
    have lb:=Q6 HP.o.cells
    obtain⟨e0,e1⟩:=Qf HP.o.cells
    have f1:=Q2 HP.o.cells 1
    obtain⟨q0,q1⟩:=Qf ((HP.o.below.block _ l1).trans HB1.o)
    by_cases hlt:i<n
    ·obtain⟨x,hx⟩:∃x,l[i]? =some x:=⟨_,List.getElem?_eq_getElem (by rw[HN.o];exact hlt)⟩
     obtain⟨g,cq,he,_,hgw,_,_⟩:=HO1.o.form (by rw[HN.o];omega)
     injection he with hA hn2 hC
     subst hA
     obtain⟨d0,d1⟩:=(HO1.o.below HP.o.below).Xb hx
     have hil:(i:Int)<n:=by omega
     have HX:Sc (∀{q:Bool×List (Int×Int)},Sc (Z8 p f (b,m) x=q)->Sc ((l.take (i+1)).foldl (Z8 p f) (false,[])=q)):=⟨fun hq=>⟨by
      rw[List.take_add_one,hx]
      show(l.take i++[x]).foldl _ _=_
      rw[List.foldl_append,HF2.o]
      exact hq.o⟩⟩
     have hi0':(0:Int)<=(i:Int):=Int.natCast_nonneg _
     have HXX:=Q0 hx
     clear hx hn2 hC p0 p1
     cases b with
     |true=>
      by_cases hp:x.1=p
      ·have hb:(x.1 !=p)=false:=by simp[hp]
       have HS:Sc (Z8 p f (true,m) x=(true,m)):=⟨by simp[Z8,hp]⟩
       clear hp
       go_wp2
       go_roundg (n - (i+1))
       case measure=>omega
       case rel=>exact⟨i+1,_,_,_,_,_,by go_num,rfl,by omega,Nat.le_refl _,HX.o HS,HP⟩
      ·have hb:(x.1 !=p)=true:=by simp[hp]
       have HS:Sc (Z8 p f (true,m) x=(true,m++[x])):=⟨by simp[Z8,hp]⟩
       clear hp
       go_wp2_with fail
       go_region_law (go_loud (refine step_append_lies _ (by rfl) (.tmp 67) (.tmp 73) 195 (by rfl) w1.heap.size 227 i0 (.agg #[.int .i64 0,.int .i64 0]) 2 16 Tryz.underlying195 hi hz0 hz1 hz2 rfl (by decide) _ (m).length (flat Qj (m)) (by rfl) ((HP.o.own.alloc _).drew) ⟨wr.heap.size,0,none⟩ 1 1 (Qj x) (by rfl) (by rfl) (World.news_of_block (heap_alloc_new wr (.cells (Qj x).toArray 227))) (Xh.one x) Nat.one_pos HA2.o HA3.o (by have:=HLW.o;simp;omega) (wr.heap.size+1) (by simp) ?_;intro ge ce we h1 h2 h3 h4;obtain⟨hce,hpv⟩:=HP.o.append h1 (Zp h2) h3;have c1:=(Qf hce).2;have f2:=Q2 hce 1;have HPV:=Q0 hpv;clear h1 h2 h3 h4 hce hpv))
       all_goals
        go_wp2
        go_roundg (n - (i+1))
        case measure=>omega
        case rel=>exact⟨i+1,_,_,_,_,_,by go_num,rfl,by omega,Nat.le_refl _,HX.o HS,HPV⟩
     |false=>
      by_cases hge:p<=x.1
      ·go_wp2_with (at_builtin;go_loud (refine wpList_append_lies _ rfl (.tmp 51) (.tmp 55) 195 rfl w1.heap.size 227 i0 (.agg #[.int .i64 0,.int .i64 0]) 2 16 Tryz.underlying195 hi hz0 hz1 hz2 rfl (by decide) _ m.length (flat Qj m) rfl (HP.o.own.alloc _) ⟨wr.heap.size,0,none⟩ 1 1 (Qj (p,f)) rfl rfl (World.news_of_block (heap_alloc_new wr (.cells (Qj (p,f)).toArray 227))) (Xh.one (p,f)) Nat.one_pos HA2.o HA3.o (by have:=HLW.o;simp;omega) (wr.heap.size+1) (by simp) ?_))
       intro ga ca wa h1 h2 h3 h4
       obtain⟨hce,hpv⟩:=HP.o.append h1 h2 h3
       have c1:=(Qf hce).2
       have f2:=Q2 hce 1
       have HPA:=Q0 hpv
       clear h1 h2 h3 h4 hce hpv d0 d1 q0 q1 e0 e1 f1
       go_upto_region 12 with fail
       generalize hwy:wa.setCell _ _=wy
       obtain⟨m1,hm1⟩:∃m1,m++[(p,f)]=m1:=⟨_,rfl⟩
       rw[hwy,hm1]at HPA
       have HM1:=Q0 hm1
       have HLW2:Sc (w1.heap.size<=wy.heap.size):=⟨HPA.o.below.size⟩
       have HA4:Sc (m1.length+1<=maxLen):=⟨by have:=HML.o;rw[<-HM1.o,List.length_append];unfold maxLen;simp;omega⟩
       have HA5:Sc ((m1.length+1)*16<=140737488355328):=⟨by have:=HML.o;rw[<-HM1.o,List.length_append];simp;omega⟩
       have lb2:=Q6 HPA.o.cells
       obtain⟨e0,e1⟩:=Qf HPA.o.cells
       have f1:=Q2 HPA.o.cells 1
       obtain⟨q0,q1⟩:=Qf ((HPA.o.below.block _ l1).trans HB1.o)
       obtain⟨d0,d1⟩:=(HO1.o.below HPA.o.below).Xb HXX.o
       clear hwy c1 f2 hm1
       by_cases hp:x.1=p
       ·have hb:(x.1 !=p)=false:=by simp[hp]
        have HS:Sc (Z8 p f (false,m) x=(true,m1)):=⟨by rw[<-HM1.o];simp[Z8,hp]⟩
        clear hp hge
        go_wp2
        go_roundg (n - (i+1))
        case measure=>omega
        case rel=>exact⟨i+1,_,_,_,_,_,by go_num,rfl,by omega,Nat.le_refl _,HX.o HS,HPA⟩
       ·have hb:(x.1 !=p)=true:=by simp[hp]
        have HS:Sc (Z8 p f (false,m) x=(true,m1++[x])):=⟨by rw[<-HM1.o];simp[Z8,hp,hge]⟩
        clear hp hge
        go_wp2_with fail
        go_region_law (go_loud (refine step_append_lies _ (by rfl) (.tmp 67) (.tmp 73) 195 (by rfl) w1.heap.size 227 i0 (.agg #[.int .i64 0,.int .i64 0]) 2 16 Tryz.underlying195 hi hz0 hz1 hz2 rfl (by decide) _ m1.length (flat Qj m1) (by rfl) ((HPA.o.own.alloc _).drew) ⟨wy.heap.size,0,none⟩ 1 1 (Qj x) (by rfl) (by rfl) (World.news_of_block (heap_alloc_new wy (.cells (Qj x).toArray 227))) (Xh.one x) Nat.one_pos HA4.o HA5.o (by have:=HLW2.o;simp;omega) (wy.heap.size+1) (by simp) ?_;intro ge ce we h1 h2 h3 h4;obtain⟨hce,hpv⟩:=HPA.o.append h1 (Zp h2) h3;have c1:=(Qf hce).2;have f2:=Q2 hce 1;have HPV:=Q0 hpv;clear h1 h2 h3 h4 hce hpv))
        all_goals
         go_wp2
         go_roundg (n - (i+1))
         case measure=>omega
         case rel=>exact⟨i+1,_,_,_,_,_,by go_num,rfl,by omega,Nat.le_refl _,HX.o HS,HPV⟩
      ·have hne:¬x.1=p:=by omega
       have hb:(x.1 !=p)=true:=by simp[hne]
       have HS:Sc (Z8 p f (false,m) x=(false,m++[x])):=⟨by simp[Z8,hne,hge]⟩
       clear hne
       go_wp2_with fail
       go_region_law (go_loud (refine step_append_lies _ (by rfl) (.tmp 67) (.tmp 73) 195 (by rfl) w1.heap.size 227 i0 (.agg #[.int .i64 0,.int .i64 0]) 2 16 Tryz.underlying195 hi hz0 hz1 hz2 rfl (by decide) _ (m).length (flat Qj (m)) (by rfl) ((HP.o.own.alloc _).drew) ⟨wr.heap.size,0,none⟩ 1 1 (Qj x) (by rfl) (by rfl) (World.news_of_block (heap_alloc_new wr (.cells (Qj x).toArray 227))) (Xh.one x) Nat.one_pos HA2.o HA3.o (by have:=HLW.o;simp;omega) (wr.heap.size+1) (by simp) ?_;intro ge ce we h1 h2 h3 h4;obtain⟨hce,hpv⟩:=HP.o.append h1 (Zp h2) h3;have c1:=(Qf hce).2;have f2:=Q2 hce 1;have HPV:=Q0 hpv;clear h1 h2 h3 h4 hce hpv))
       all_goals
        go_wp2
        go_roundg (n - (i+1))
        case measure=>omega
        case rel=>exact⟨i+1,_,_,_,_,_,by go_num,rfl,by omega,Nat.le_refl _,HX.o HS,HPV⟩
    ·obtain rfl:i=n:=by omega
     have HE:Sc (Y4k p f (b,m)=Qt l (p,f)):=⟨by
      have h1:=X4t HR.o p f []
      have h2:=HF2.o
      rw[<-HN.o,List.take_length]at h2
      rw[h2]at h1
      exact h1⟩
     obtain⟨z0,z1⟩:=Qf ((HP.o.below.block _ l2).trans HZ1.o)
     have y0:=Q2 ((HP.o.below.block _ l2).trans HZ1.o) 0
     have y1:=Q2 ((HP.o.below.block _ l2).trans HZ1.o) 1
     clear p0 p1
     cases b with
     |true=>
      go_wp2
      refine bodyPost_ret (v:=.tuple #[Zn n0 (.slice A8 k8 c8),.bool true]) (by simp[results,Tryz.results175,go_sem,z0,z1]) rfl (Jl.yes HF.o ⟨A8,k8,c8,rfl,?_⟩)
      rw[<-HE.o]
      exact Et (HW1.o.trans (HP.o.below.mono HW1.o.size)) HP.o.own (Nat.le_succ _) l2
     |false=>
      go_wp2_with (at_builtin;go_loud (refine wpList_append_lies _ rfl (.tmp 79) (.tmp 83) 195 rfl w1.heap.size 227 i0 (.agg #[.int .i64 0,.int .i64 0]) 2 16 Tryz.underlying195 hi hz0 hz1 hz2 rfl (by decide) _ m.length (flat Qj m) rfl (HP.o.own.alloc _) ⟨wr.heap.size,0,none⟩ 1 1 (Qj (p,f)) rfl rfl (World.news_of_block (heap_alloc_new wr (.cells (Qj (p,f)).toArray 227))) (Xh.one (p,f)) Nat.one_pos HA2.o HA3.o (by have:=HLW.o;simp;omega) (wr.heap.size+1) (by simp) ?_))
      intro ga ca wa h1 h2 h3 h4
      obtain⟨hce,hpv⟩:=HP.o.append h1 h2 h3
      have c1:=(Qf hce).2
      have f2:=Q2 hce 1
      have HPA:=Q0 hpv
      clear h1 h2 h3 h4 hce hpv q0 q1 e0 e1 f1 z0 z1 y0 y1
      go_upto_region 16 with fail
      generalize hwy:wa.setCell _ _=wy
      rw[hwy]at HPA
      obtain⟨e0,e1⟩:=Qf HPA.o.cells
      have lb2:=Q6 HPA.o.cells
      obtain⟨z0,z1⟩:=Qf ((HPA.o.below.block _ l2).trans HZ1.o)
      have y0:=Q2 ((HPA.o.below.block _ l2).trans HZ1.o) 0
      have y1:=Q2 ((HPA.o.below.block _ l2).trans HZ1.o) 1
      clear hwy c1 f2
      go_wp2
      refine bodyPost_ret (v:=.tuple #[Zn n0 (.slice (some ⟨ga,0,none⟩) (m.length+1) ca),.bool true]) (by simp[results,Tryz.results175,go_sem,z0,z1]) rfl (Jl.yes HF.o ⟨_,_,_,rfl,?_⟩)
      rw[<-HE.o]
      exact Et (HW1.o.trans (HPA.o.below.mono HW1.o.size)) HPA.o.own (Nat.le_succ _) l2
end
end Go.Proofs.YtoapihepdallbaaGreatDoor
