import Derived.BigGuardPart
import Derived.IntWalk
import Derived.Test.YtoapihepdallbaaGreatDoorP08
namespace Go.Proofs.YtoapihepdallbaaGreatDoor
open Go.RowKit
theorem Q2g(a:Int){b:Int}(hb:0<b): -b<Int.tmod a b:=by
 have:=Int.tmod_lt_of_pos (-a) hb
 rw[Int.neg_tmod]at this
 omega
theorem Y0u{a b:Int}(h:¬Int.tmod a b<0):Int.tmod a b=a % b:=by
 rcases Int.lt_or_le a 0 with h0|h0
 ·have h1:Int.tmod a b<=0:=by
   have:=Int.tmod_nonneg (a:= -a) b (by omega)
   rw[Int.neg_tmod]at this;omega
  have h2:Int.tmod a b=0:=by omega
  have h3:b ∣ a:=Int.dvd_of_tmod_eq_zero h2
  rw[h2,Int.emod_eq_zero_of_dvd h3]
 ·exact Int.tmod_eq_emod_of_nonneg h0
theorem Q7c{a b:Int}(hb:0<b)(h:Int.tmod a b<0):Int.tmod a b+b=a % b:=by
 have h0:a<0:=by
  rcases Int.lt_or_le a 0 with h0|h0
  ·exact h0
  ·have:=Int.tmod_nonneg (a:=a) b h0;omega
 have h1: -b<Int.tmod a b:=Q2g a hb
 have h2:(Int.tmod a b+b) % b=a % b:=by
  rw[Int.add_emod_right]
  have h3:=Int.mul_tdiv_add_tmod a b
  conv=>rhs;rw[<-h3]
  rw[Int.add_comm,Int.add_mul_emod_self_left]
 rw[<-h2]
 exact(Int.emod_eq_of_lt (by omega) (by omega)).symm
set_option maxHeartbeats 400000 in
theorem Ca(n b:Int)(w:World)(h0:0<b)(h1:b<=1000000):
  Calls Tryz.prog 13 #[.int .i64 n,.int .i64 b] w fun e w'=>e=.returned (.int .i64 (n % b))/\w=w':=by
 have hlo: -b<Int.tmod n b:=Q2g n h0
 have hhi:Int.tmod n b<b:=Int.tmod_lt_of_pos n h0
 by_cases hneg:Int.tmod n b<0
 ·have HR:Sc (Int.tmod n b+b=n % b):=⟨Q7c h0 hneg⟩
  go_enter Tryz.func13,Tryz.ntmps13
  go_wp2
  go_ret
  exact⟨by rw[<-HR.o];rfl,rfl⟩
 ·have HR:Sc (Int.tmod n b=n % b):=⟨Y0u hneg⟩
  go_enter Tryz.func13,Tryz.ntmps13
  go_wp2
  go_ret
  exact⟨by rw[<-HR.o];rfl,rfl⟩
theorem Q8g(n b r:Int)(w:World)(hr:n % b=r)(h0:0<b)(h1:b<=1000000):
  Calls Tryz.prog 13 #[.int .i64 n,.int .i64 b] w fun e w'=>e=.returned (.int .i64 r)/\w=w':=by
 subst hr
 exact Ca n b w h0 h1
section
set_option maxHeartbeats 8000000
set_option maxRecDepth 10000
theorem X8d{w:World}{b:Nat}{v u:Value}{t:TypeId}(h:w.heap[b]? =some (.cells #[v,u] t (0,0))):w.cell? ⟨b,0,none⟩=some v/\w.cell? ⟨b,1,none⟩=some u:=by simp[World.cell?,h]
structure Xd(w0 w:World)(b:Nat)(a:Option Addr)(len cap:Nat)(zs:List Int)(k:Nat):Prop where
 row:Uf .i64 w0 a len cap zs
 cells:w.heap[b]? =some (.cells #[.slice a len cap,.int .i64 k] 53 (0,0))
 new:w0.heap.size<=b
 below:Below w0.heap.size w0 w
theorem Xd.bel{w0 w w':World}{b:Nat}{a:Option Addr}{len cap:Nat}{zs:List Int}{k:Nat}(h:Xd w0 w b a len cap zs k)(hb:Below w.heap.size w w'):Xd w0 w' b a len cap zs k:=
 ⟨h.row,(hb.block _ (Q6 h.cells)).trans h.cells,h.new,h.below.trans (hb.mono h.below.size)⟩
theorem Xd.next{w0 w w':World}{b:Nat}{a:Option Addr}{len cap:Nat}{zs:List Int}{k:Nat}(h:Xd w0 w b a len cap zs k)(hb:Below w.heap.size w w'):
  Xd w0 (w'.setCell ⟨b,1,none⟩ (.int .i64 ((k:Int)+1))) b a len cap zs (k+1)/\Kp (fun q=>q=b) w (w'.setCell ⟨b,1,none⟩ (.int .i64 ((k:Int)+1))):=by
 have hc:=(hb.block _ (Q6 h.cells)).trans h.cells
 refine⟨⟨h.row,?_,h.new,(h.below.trans (hb.mono h.below.size)).setCell h.new _⟩,(Kp.Qi hb _).trans (Kp.setCell w' ⟨b,1,none⟩ _) (fun q hq=> .inl hq)⟩
 rw[Qn hc 1 _];rfl
def Y1h(w0 w:World)(b:Nat)(a:Option Addr)(len cap:Nat)(zs:List Int)(k:Nat)(m:Int)(e:Ending)(w':World):Prop:=
 ∃r:Int,0<=r/\r<m/\e=.returned (.int .i64 r)/\Xd w0 w' b a len cap zs (k+1)/\Kp (fun q=>q=b) w w'
theorem Cs{B:Nat}{w0 w:World}(h:Below B w0 w)(n:Nat):Below B w0 (w.drewN n):=⟨h.os,h.tape,h.output,h.size,h.block⟩
theorem Zk(w0 w:World)(b:Nat)(a:Option Addr)(len cap:Nat)(zs:List Int)(k:Nat)(m:Int)(h:Xd w0 w b a len cap zs k)(hk:k<=1000000)(h0:0<m)(h1:m<=1000000):
  Calls Tryz.prog 44 #[.pointer (some ⟨b,0,none⟩),.int .i64 m] w (Y1h w0 w b a len cap zs k m):=by
 have HS:=Q0 h
 obtain⟨c0,c1⟩:=X8d h.cells
 have f1:=Q2 h.cells 1
 have lb:=Q6 h.cells
 by_cases hlt:k<len
 ·obtain⟨g,off,rfl,hgw,hz⟩:=h.row.at (by omega)
  have hd:=(h.below.cell (p:=⟨g,off+k,none⟩) hgw).trans (hz k hlt)
  generalize zs.getD k 0=z at hd
  have hki:(k:Int)<len:=by omega
  have hk0:(0:Int)<=(k:Int):=Int.natCast_nonneg _
  clear h hz
  go_enter Tryz.func44,Tryz.ntmps44
  go_wp2_with fail
  go_quiet (fail)
  go_wp2_with fail
  go_quiet (fail)
  go_wp2_with (go_at_call 13;go_loud (refine(Ca z m _ h0 h1).mono ?_;rintro e w2 ⟨rfl,rfl⟩))
  go_ret
  exact⟨z % m,Int.emod_nonneg _ (by omega),Int.emod_lt_of_pos _ h0,rfl,HS.o.next (Cs (Below.refl _ _) _)⟩
 ·have hki:¬(k:Int)<len:=by omega
  have hk0:(0:Int)<=(k:Int):=Int.natCast_nonneg _
  clear h
  go_enter Tryz.func44,Tryz.ntmps44
  go_wp2_with fail
  go_quiet (fail)
  go_wp2_with (go_at_call 13;go_loud (refine(Ca 0 m _ h0 h1).mono ?_;rintro e w2 ⟨rfl,rfl⟩))
  go_ret
  exact⟨0 % m,Int.emod_nonneg _ (by omega),Int.emod_lt_of_pos _ h0,rfl,HS.o.next (Cs (Below.refl _ _) _)⟩
theorem Xd.made{w0 w:World}{a:Option Addr}{len cap:Nat}{zs:List Int}(hr:Uf .i64 w0 a len cap zs)(hb:Below w0.heap.size w0 w):Xd w0 (w.alloc (.cells #[.slice a len cap,.int .i64 0] 53)) w.heap.size a len cap zs 0:=
 ⟨hr,heap_alloc_new w _,hb.size,hb.alloc hb.size _⟩
structure Xw(w0 w wr:World)(b b2 b3:Nat)(a:Option Addr)(len cap:Nat)(zs:List Int)(k0 m k:Nat)(kd:Int):Prop where
 seq:Xd w0 wr b a len cap zs k
 kp:Kp (fun q=>q=b) w wr
 res:wr.heap[b2]? =some (.cells (Qe Z9) 49 (0,0))
 rcd:∃r:Q9,r.kind=kd/\wr.heap[b3]? =some (.cells (Qe r) 49 (0,0))
 few:k<=k0+m
 old:b<w.heap.size
 X5l:w.heap.size<=b2
 X5m:w.heap.size<=b3
 ne:b2≠b3
section
variable{w0 w wr w':World}{b b2 b3:Nat}{a:Option Addr}{len cap:Nat}{zs:List Int}{k0 m m' k k':Nat}{kd:Int}
theorem Xw.more(h:Xw w0 w wr b b2 b3 a len cap zs k0 m k kd)(hm:m<=m'):Xw w0 w wr b b2 b3 a len cap zs k0 m' k kd:=
 ⟨h.seq,h.kp,h.res,h.rcd,by have:=h.few;omega,h.old,h.X5l,h.X5m,h.ne⟩
theorem Xw.next(h:Xw w0 w wr b b2 b3 a len cap zs k0 m k kd)(hs:Xd w0 w' b a len cap zs (k+1))(hk:Kp (fun q=>q=b) wr w'):Xw w0 w w' b b2 b3 a len cap zs k0 (m+1) (k+1) kd:=by
 obtain⟨r,hr,hc⟩:=h.rcd
 exact⟨hs,h.kp.trans hk (fun _ hq=> .inl hq),hk.at h.res (fun he=>by have:=h.old;have:=h.X5l;omega),⟨r,hr,hk.at hc (fun he=>by have:=h.old;have:=h.X5m;omega)⟩,by have:=h.few;omega,h.old,h.X5l,h.X5m,h.ne⟩
theorem Xw.set(h:Xw w0 w wr b b2 b3 a len cap zs k0 m k kd)(j:Nat)(u:Value)(hu:∀r:Q9,r.kind=kd->∃r':Q9,r'.kind=kd/\(Qe r).setIfInBounds j u=Qe r'):Xw w0 w (wr.setCell ⟨b3,j,none⟩ u) b b2 b3 a len cap zs k0 m k kd:=by
 obtain⟨r,hr,hc⟩:=h.rcd
 obtain⟨r',hr',he⟩:=hu r hr
 have hk:=Kp.setCell wr ⟨b3,j,none⟩ u
 refine⟨⟨h.seq.row,hk.at h.seq.cells (fun he=>by have he:b=b3:=he;have:=h.old;have:=h.X5m;omega),h.seq.new,h.seq.below.setCell (by have:=h.seq.new;have:=h.old;have:=h.X5m;show w0.heap.size<=b3;omega) _⟩,
  h.kp.trans hk (fun q hq=> .inr (by rw[hq];exact h.X5m)),hk.at h.res (fun he=>h.ne he),⟨r',hr',?_⟩,h.few,h.old,h.X5l,h.X5m,h.ne⟩
 rw[Qn hc j u,he]
theorem Xw.Y9(h:Xw w0 w wr b b2 b3 a len cap zs k0 m k kd)(z:Int):Xw w0 w (wr.setCell ⟨b3,1,none⟩ (.int .i64 z)) b b2 b3 a len cap zs k0 m k kd:=h.set 1 _ fun r hr=>⟨{r with txn:=z},hr,rfl⟩
theorem Xw.Q6p(h:Xw w0 w wr b b2 b3 a len cap zs k0 m k kd)(z:Int):Xw w0 w (wr.setCell ⟨b3,2,none⟩ (.int .i64 z)) b b2 b3 a len cap zs k0 m k kd:=h.set 2 _ fun r hr=>⟨{r with page:=z},hr,rfl⟩
theorem Xw.Q6q(h:Xw w0 w wr b b2 b3 a len cap zs k0 m k kd)(z:Int):Xw w0 w (wr.setCell ⟨b3,3,none⟩ (.int .i64 z)) b b2 b3 a len cap zs k0 m k kd:=h.set 3 _ fun r hr=>⟨{r with prev:=z},hr,rfl⟩
theorem Xw.Q6r(h:Xw w0 w wr b b2 b3 a len cap zs k0 m k kd)(z:Int):Xw w0 w (wr.setCell ⟨b3,4,none⟩ (.int .i64 z)) b b2 b3 a len cap zs k0 m k kd:=h.set 4 _ fun r hr=>⟨{r with next:=z},hr,rfl⟩
theorem Xw.Q6s(h:Xw w0 w wr b b2 b3 a len cap zs k0 m k kd)(z:Int):Xw w0 w (wr.setCell ⟨b3,5,none⟩ (.int .i64 z)) b b2 b3 a len cap zs k0 m k kd:=h.set 5 _ fun r hr=>⟨{r with key:=z},hr,rfl⟩
theorem Xw.Q6t(h:Xw w0 w wr b b2 b3 a len cap zs k0 m k kd)(z:Bool):Xw w0 w (wr.setCell ⟨b3,6,none⟩ (.bool z)) b b2 b3 a len cap zs k0 m k kd:=h.set 6 _ fun r hr=>⟨{r with had:=z},hr,rfl⟩
theorem Xw.Q6u(h:Xw w0 w wr b b2 b3 a len cap zs k0 m k kd)(z:Bool):Xw w0 w (wr.setCell ⟨b3,7,none⟩ (.bool z)) b b2 b3 a len cap zs k0 m k kd:=h.set 7 _ fun r hr=>⟨{r with has:=z},hr,rfl⟩
theorem Xw.Q6v(h:Xw w0 w wr b b2 b3 a len cap zs k0 m k kd)(z:Int):Xw w0 w (wr.setCell ⟨b3,8,none⟩ (.int .i64 z)) b b2 b3 a len cap zs k0 m k kd:=h.set 8 _ fun r hr=>⟨{r with old:=z},hr,rfl⟩
theorem Xw.Q6w(h:Xw w0 w wr b b2 b3 a len cap zs k0 m k kd)(z:Int):Xw w0 w (wr.setCell ⟨b3,9,none⟩ (.int .i64 z)) b b2 b3 a len cap zs k0 m k kd:=h.set 9 _ fun r hr=>⟨{r with new:=z},hr,rfl⟩
theorem Xw.call(h:Xw w0 w wr b b2 b3 a len cap zs k0 m k kd){n:Int}(hk:k0<=1000)(hm:m<=1000)(h0:0<n)(h1:n<=1000000):
  Calls Tryz.prog 44 #[.pointer (some ⟨b,0,none⟩),.int .i64 n] wr fun e w'=>∃r:Int,0<=r/\r<n/\e=.returned (.int .i64 r)/\Xw w0 w w' b b2 b3 a len cap zs k0 (m+1) (k+1) kd:=
 (Zk w0 _ b a len cap zs k n h.seq (by have:=h.few;omega) h0 h1).mono fun e w' ⟨r,h0,h1,he,hs,hk⟩=>⟨r,h0,h1,he,h.next hs hk⟩
end
theorem X7o{w:World}{b:Nat}{u0 u1 u2 u3 u4 u5 u6 u7 u8 u9:Value}:Kp (fun q=>q=b) w ((((((((((w.setCell ⟨b,0,none⟩ u0).setCell ⟨b,1,none⟩ u1).setCell ⟨b,2,none⟩ u2).setCell ⟨b,3,none⟩ u3).setCell ⟨b,4,none⟩ u4).setCell ⟨b,5,none⟩ u5).setCell ⟨b,6,none⟩ u6).setCell ⟨b,7,none⟩ u7).setCell ⟨b,8,none⟩ u8).setCell ⟨b,9,none⟩ u9):=
 (((((((((Kp.setCell w ⟨b,0,none⟩ u0).trans (Kp.setCell _ ⟨b,1,none⟩ u1) (fun _ hq=> .inl hq)).trans (Kp.setCell _ ⟨b,2,none⟩ u2) (fun _ hq=> .inl hq)).trans (Kp.setCell _ ⟨b,3,none⟩ u3) (fun _ hq=> .inl hq)).trans (Kp.setCell _ ⟨b,4,none⟩ u4) (fun _ hq=> .inl hq)).trans (Kp.setCell _ ⟨b,5,none⟩ u5) (fun _ hq=> .inl hq)).trans (Kp.setCell _ ⟨b,6,none⟩ u6) (fun _ hq=> .inl hq)).trans (Kp.setCell _ ⟨b,7,none⟩ u7) (fun _ hq=> .inl hq)).trans (Kp.setCell _ ⟨b,8,none⟩ u8) (fun _ hq=> .inl hq)).trans (Kp.setCell _ ⟨b,9,none⟩ u9) (fun _ hq=> .inl hq)
theorem Xd.kp{w0 w w':World}{b b2:Nat}{a:Option Addr}{len cap:Nat}{zs:List Int}{k:Nat}(h:Xd w0 w b a len cap zs k)(hk:Kp (fun q=>q=b2) w w')(hne:b≠b2)(h0:w0.heap.size<=b2):Xd w0 w' b a len cap zs k:=
 ⟨h.row,hk.at h.cells hne,h.new,h.below.trans (hk.below h.below.size (fun q hq=>by rw[hq];exact h0))⟩
def Y4b(w0 w:World)(b:Nat)(a:Option Addr)(len cap:Nat)(zs:List Int)(k:Nat)(e:Ending)(w':World):Prop:=
 ∃(r:Q9) (k':Nat),e=.returned (Yg r)/\Xd w0 w' b a len cap zs k'/\k'<=k+20/\Kp (fun q=>q=b) w w'
theorem X2a(w0 w:World)(b:Nat)(a:Option Addr)(len cap:Nat)(zs:List Int)(k:Nat)(h:Xd w0 w b a len cap zs k)(hk:k<=1000):
  Calls Tryz.prog 15 #[.pointer (some ⟨b,0,none⟩)] w (Y4b w0 w b a len cap zs k):=by
 have HS:=Q0 h
 have lb0:=Q6 h.cells
 clear h
 go_enter Tryz.func15,Tryz.ntmps15
 go_wp2_with fail
 refine(Zk w0 _ b a len cap zs k 10 (HS.o.bel ((Below.refl _ _).alloc (Nat.le_refl _) _)) (by omega) (by omega) (by omega)).mono ?_
 rintro e w1 ⟨r1,h10,h11,rfl,hs1,hk1⟩
 go_upto_region 2 with fail
 have hsz:=hk1.size
 simp at hsz
 obtain⟨kd,hkd⟩:∃kd,1+r1=kd:=⟨_,rfl⟩
 obtain⟨b2,hb2⟩:∃b2,w.heap.size=b2:=⟨_,rfl⟩
 obtain⟨b3,hb3⟩:∃b3,w1.heap.size=b3:=⟨_,rfl⟩
 obtain⟨wa,hwa⟩:∃wa,w1.alloc (.cells (Qe ⟨1+r1,0,0,0,0,0,false,false,0,0⟩) 49)=wa:=⟨_,rfl⟩
 have HM:Sc (Xw w0 w wa b b2 b3 a len cap zs k 1 (k+1) kd):=⟨by
  rw[<-hwa,<-hb2,<-hb3]
  exact⟨hs1.bel ((Below.refl _ _).alloc (Nat.le_refl _) _),((Kp.alloc w _ _).trans hk1 (fun _ hq=> .inl hq)).trans (Kp.alloc w1 _ (fun q=>q=b)) (fun _ hq=> .inl hq),
   (heap_alloc_old w1 _ (by omega)).trans (hk1.at (heap_alloc_new w _) (by omega)),⟨_,hkd,heap_alloc_new w1 _⟩,by omega,lb0,Nat.le_refl _,by omega,by omega⟩⟩
 clear hs1 hk1
 rw[hwa,hb2,hb3]
 have hkd1:1<=kd:=by omega
 have hkd2:kd<=10:=by omega
 have HWZ:Sc (w.heap.size=b2):=⟨hb2⟩
 clear hwa hb3 hb2 hsz hkd
 obtain⟨rr,hrk,hrc⟩:=HM.o.rcd
 obtain⟨r0,r1,r2,r3,r4,r5,r6,r7,r8,r9⟩:=Qb hrc
 rw[hrk]at r0
 have g1:=Q2 hrc 1
 have g2:=Q2 hrc 2
 have g3:=Q2 hrc 3
 have g4:=Q2 hrc 4
 have g5:=Q2 hrc 5
 have g6:=Q2 hrc 6
 have g7:=Q2 hrc 7
 have g8:=Q2 hrc 8
 have g9:=Q2 hrc 9
 have lb:=Q6 hrc
 clear hrc hrk
 go_cut [16] from 9 to 16 (fun sx wx=>∃q:Bool,sx=.bool q/\wa=wx)
 case first=>
  by_cases h6:kd<=6
  ·go_wp2_with fail
   go_meet
   case rel=>exact⟨_,rfl,rfl⟩
  ·go_wp2_with fail
   go_meet
   case rel=>exact⟨_,rfl,rfl⟩
 case rest=>
 obtain⟨q16,rfl,rfl⟩:=hcut
 go_upto_if 16 with fail
 go_cut [] from 17 to 20 (fun wx=>∃k9:Nat,Sc (Xw w0 w wx b b2 b3 a len cap zs k 2 k9 kd))
 case first=>
  cases q16
  all_goals
   go_wp2_with (go_at_call 44;go_loud ((first|(with_reducible refine(HM.o.call hk (by omega) (by omega) (by omega)).mono ?_)|(with_reducible refine((HM.o.Y9 _).call hk (by omega) (by omega) (by omega)).mono ?_)|(with_reducible refine((HM.o.Q6p _).call hk (by omega) (by omega) (by omega)).mono ?_)|(with_reducible refine((HM.o.Q6q _).call hk (by omega) (by omega) (by omega)).mono ?_)|(with_reducible refine((HM.o.Q6r _).call hk (by omega) (by omega) (by omega)).mono ?_)|(with_reducible refine((HM.o.Q6s _).call hk (by omega) (by omega) (by omega)).mono ?_)|(with_reducible refine((HM.o.Q6t _).call hk (by omega) (by omega) (by omega)).mono ?_)|(with_reducible refine((HM.o.Q6u _).call hk (by omega) (by omega) (by omega)).mono ?_)|(with_reducible refine((HM.o.Q6v _).call hk (by omega) (by omega) (by omega)).mono ?_)|(with_reducible refine((HM.o.Q6w _).call hk (by omega) (by omega) (by omega)).mono ?_));rintro e w9 ⟨rz,hz0,hz1,rfl,hm9⟩;replace HM:=Q0 hm9;clear hm9 r0 r1 r2 r3 r4 r5 r6 r7 r8 r9 g1 g2 g3 g4 g5 g6 g7 g8 g9 lb;obtain⟨rr,hrk,hrc⟩:=HM.o.rcd;obtain⟨r0,r1,r2,r3,r4,r5,r6,r7,r8,r9⟩:=Qb hrc;rw[hrk]at r0;have g1:=Q2 hrc 1;have g2:=Q2 hrc 2;have g3:=Q2 hrc 3;have g4:=Q2 hrc 4;have g5:=Q2 hrc 5;have g6:=Q2 hrc 6;have g7:=Q2 hrc 7;have g8:=Q2 hrc 8;have g9:=Q2 hrc 9;have lb:=Q6 hrc;clear hrc hrk))
   all_goals
    go_meet
    case rel=>first|exact⟨_,⟨HM.o.more (by omega)⟩⟩|exact⟨_,⟨(HM.o.Y9 _).more (by omega)⟩⟩|exact⟨_,⟨(HM.o.Q6p _).more (by omega)⟩⟩|exact⟨_,⟨(HM.o.Q6q _).more (by omega)⟩⟩|exact⟨_,⟨(HM.o.Q6r _).more (by omega)⟩⟩|exact⟨_,⟨(HM.o.Q6s _).more (by omega)⟩⟩|exact⟨_,⟨(HM.o.Q6t _).more (by omega)⟩⟩|exact⟨_,⟨(HM.o.Q6u _).more (by omega)⟩⟩|exact⟨_,⟨(HM.o.Q6v _).more (by omega)⟩⟩|exact⟨_,⟨(HM.o.Q6w _).more (by omega)⟩⟩
 case rest=>
 clear HM r0 r1 r2 r3 r4 r5 r6 r7 r8 r9 g1 g2 g3 g4 g5 g6 g7 g8 g9 lb
 obtain⟨k9,HM⟩:=hcut
 obtain⟨wa,rfl⟩:∃wa:World,wa=wc:=⟨_,rfl⟩
 obtain⟨rr,hrk,hrc⟩:=HM.o.rcd
 obtain⟨r0,r1,r2,r3,r4,r5,r6,r7,r8,r9⟩:=Qb hrc
 rw[hrk]at r0
 have g1:=Q2 hrc 1
 have g2:=Q2 hrc 2
 have g3:=Q2 hrc 3
 have g4:=Q2 hrc 4
 have g5:=Q2 hrc 5
 have g6:=Q2 hrc 6
 have g7:=Q2 hrc 7
 have g8:=Q2 hrc 8
 have g9:=Q2 hrc 9
 have lb:=Q6 hrc
 clear hrc hrk
 go_upto_region 4 with fail
 go_cut [4] from 21 to 28 (fun sx wx=>∃q:Bool,sx=.bool q/\wa=wx)
 case first=>
  by_cases h2:kd=2
  ·have e2:(kd==2)=true:=by simp[h2]
   clear h2
   go_wp2_with fail
   go_meet
   case rel=>exact⟨_,rfl,rfl⟩
  ·have e2:(kd==2)=false:=by simp[h2]
   go_wp2_with fail
   go_meet
   case rel=>exact⟨_,rfl,rfl⟩
 case rest=>
 obtain⟨q4,rfl,rfl⟩:=hcut
 go_upto_region 5 with fail
 go_cut [34] from 29 to 34 (fun sx wx=>∃q:Bool,sx=.bool q/\wa=wx)
 case first=>
  cases q4 with
  |true=>
   go_wp2_with fail
   go_meet
   case rel=>exact⟨_,rfl,rfl⟩
  |false=>
   go_wp2_with fail
   go_meet
   case rel=>exact⟨_,rfl,rfl⟩
 case rest=>
 obtain⟨q34,rfl,rfl⟩:=hcut
 go_upto_if 34 with fail
 go_cut [] from 35 to 38 (fun wx=>∃k9:Nat,Sc (Xw w0 w wx b b2 b3 a len cap zs k 3 k9 kd))
 case first=>
  cases q34
  all_goals
   go_wp2_with (go_at_call 44;go_loud ((first|(with_reducible refine(HM.o.call hk (by omega) (by omega) (by omega)).mono ?_)|(with_reducible refine((HM.o.Y9 _).call hk (by omega) (by omega) (by omega)).mono ?_)|(with_reducible refine((HM.o.Q6p _).call hk (by omega) (by omega) (by omega)).mono ?_)|(with_reducible refine((HM.o.Q6q _).call hk (by omega) (by omega) (by omega)).mono ?_)|(with_reducible refine((HM.o.Q6r _).call hk (by omega) (by omega) (by omega)).mono ?_)|(with_reducible refine((HM.o.Q6s _).call hk (by omega) (by omega) (by omega)).mono ?_)|(with_reducible refine((HM.o.Q6t _).call hk (by omega) (by omega) (by omega)).mono ?_)|(with_reducible refine((HM.o.Q6u _).call hk (by omega) (by omega) (by omega)).mono ?_)|(with_reducible refine((HM.o.Q6v _).call hk (by omega) (by omega) (by omega)).mono ?_)|(with_reducible refine((HM.o.Q6w _).call hk (by omega) (by omega) (by omega)).mono ?_));rintro e w9 ⟨rz,hz0,hz1,rfl,hm9⟩;replace HM:=Q0 hm9;clear hm9 r0 r1 r2 r3 r4 r5 r6 r7 r8 r9 g1 g2 g3 g4 g5 g6 g7 g8 g9 lb;obtain⟨rr,hrk,hrc⟩:=HM.o.rcd;obtain⟨r0,r1,r2,r3,r4,r5,r6,r7,r8,r9⟩:=Qb hrc;rw[hrk]at r0;have g1:=Q2 hrc 1;have g2:=Q2 hrc 2;have g3:=Q2 hrc 3;have g4:=Q2 hrc 4;have g5:=Q2 hrc 5;have g6:=Q2 hrc 6;have g7:=Q2 hrc 7;have g8:=Q2 hrc 8;have g9:=Q2 hrc 9;have lb:=Q6 hrc;clear hrc hrk))
   all_goals
    go_meet
    case rel=>first|exact⟨_,⟨HM.o.more (by omega)⟩⟩|exact⟨_,⟨(HM.o.Y9 _).more (by omega)⟩⟩|exact⟨_,⟨(HM.o.Q6p _).more (by omega)⟩⟩|exact⟨_,⟨(HM.o.Q6q _).more (by omega)⟩⟩|exact⟨_,⟨(HM.o.Q6r _).more (by omega)⟩⟩|exact⟨_,⟨(HM.o.Q6s _).more (by omega)⟩⟩|exact⟨_,⟨(HM.o.Q6t _).more (by omega)⟩⟩|exact⟨_,⟨(HM.o.Q6u _).more (by omega)⟩⟩|exact⟨_,⟨(HM.o.Q6v _).more (by omega)⟩⟩|exact⟨_,⟨(HM.o.Q6w _).more (by omega)⟩⟩
 case rest=>
 clear HM r0 r1 r2 r3 r4 r5 r6 r7 r8 r9 g1 g2 g3 g4 g5 g6 g7 g8 g9 lb
 obtain⟨k9,HM⟩:=hcut
 obtain⟨wa,rfl⟩:∃wa:World,wa=wc:=⟨_,rfl⟩
 obtain⟨rr,hrk,hrc⟩:=HM.o.rcd
 obtain⟨r0,r1,r2,r3,r4,r5,r6,r7,r8,r9⟩:=Qb hrc
 rw[hrk]at r0
 have g1:=Q2 hrc 1
 have g2:=Q2 hrc 2
 have g3:=Q2 hrc 3
 have g4:=Q2 hrc 4
 have g5:=Q2 hrc 5
 have g6:=Q2 hrc 6
 have g7:=Q2 hrc 7
 have g8:=Q2 hrc 8
 have g9:=Q2 hrc 9
 have lb:=Q6 hrc
 clear hrc hrk
 go_upto_block 0 with fail
 go_cut [] from 41 to 57 (fun wx=>∃k9:Nat,Sc (Xw w0 w wx b b2 b3 a len cap zs k 4 k9 kd))
 case first=>
  all_goals
   go_wp2_with (go_at_call 44;go_loud ((first|(with_reducible refine(HM.o.call hk (by omega) (by omega) (by omega)).mono ?_)|(with_reducible refine((HM.o.Y9 _).call hk (by omega) (by omega) (by omega)).mono ?_)|(with_reducible refine((HM.o.Q6p _).call hk (by omega) (by omega) (by omega)).mono ?_)|(with_reducible refine((HM.o.Q6q _).call hk (by omega) (by omega) (by omega)).mono ?_)|(with_reducible refine((HM.o.Q6r _).call hk (by omega) (by omega) (by omega)).mono ?_)|(with_reducible refine((HM.o.Q6s _).call hk (by omega) (by omega) (by omega)).mono ?_)|(with_reducible refine((HM.o.Q6t _).call hk (by omega) (by omega) (by omega)).mono ?_)|(with_reducible refine((HM.o.Q6u _).call hk (by omega) (by omega) (by omega)).mono ?_)|(with_reducible refine((HM.o.Q6v _).call hk (by omega) (by omega) (by omega)).mono ?_)|(with_reducible refine((HM.o.Q6w _).call hk (by omega) (by omega) (by omega)).mono ?_));rintro e w9 ⟨rz,hz0,hz1,rfl,hm9⟩;replace HM:=Q0 hm9;clear hm9 r0 r1 r2 r3 r4 r5 r6 r7 r8 r9 g1 g2 g3 g4 g5 g6 g7 g8 g9 lb;obtain⟨rr,hrk,hrc⟩:=HM.o.rcd;obtain⟨r0,r1,r2,r3,r4,r5,r6,r7,r8,r9⟩:=Qb hrc;rw[hrk]at r0;have g1:=Q2 hrc 1;have g2:=Q2 hrc 2;have g3:=Q2 hrc 3;have g4:=Q2 hrc 4;have g5:=Q2 hrc 5;have g6:=Q2 hrc 6;have g7:=Q2 hrc 7;have g8:=Q2 hrc 8;have g9:=Q2 hrc 9;have lb:=Q6 hrc;clear hrc hrk))
   all_goals
    go_meet
    case rel=>first|exact⟨_,⟨HM.o.more (by omega)⟩⟩|exact⟨_,⟨(HM.o.Y9 _).more (by omega)⟩⟩|exact⟨_,⟨(HM.o.Q6p _).more (by omega)⟩⟩|exact⟨_,⟨(HM.o.Q6q _).more (by omega)⟩⟩|exact⟨_,⟨(HM.o.Q6r _).more (by omega)⟩⟩|exact⟨_,⟨(HM.o.Q6s _).more (by omega)⟩⟩|exact⟨_,⟨(HM.o.Q6t _).more (by omega)⟩⟩|exact⟨_,⟨(HM.o.Q6u _).more (by omega)⟩⟩|exact⟨_,⟨(HM.o.Q6v _).more (by omega)⟩⟩|exact⟨_,⟨(HM.o.Q6w _).more (by omega)⟩⟩
 case rest=>
 clear HM r0 r1 r2 r3 r4 r5 r6 r7 r8 r9 g1 g2 g3 g4 g5 g6 g7 g8 g9 lb
 obtain⟨k9,HM⟩:=hcut
 obtain⟨wa,rfl⟩:∃wa:World,wa=wc:=⟨_,rfl⟩
 obtain⟨rr,hrk,hrc⟩:=HM.o.rcd
 obtain⟨r0,r1,r2,r3,r4,r5,r6,r7,r8,r9⟩:=Qb hrc
 rw[hrk]at r0
 have g1:=Q2 hrc 1
 have g2:=Q2 hrc 2
 have g3:=Q2 hrc 3
 have g4:=Q2 hrc 4
 have g5:=Q2 hrc 5
 have g6:=Q2 hrc 6
 have g7:=Q2 hrc 7
 have g8:=Q2 hrc 8
 have g9:=Q2 hrc 9
 have lb:=Q6 hrc
 clear hrc hrk
 go_upto_if 58 with fail
 go_cut [] from 59 to 71 (fun wx=>∃k9:Nat,Sc (Xw w0 w wx b b2 b3 a len cap zs k 7 k9 kd))
 case first=>
  cases q4
  all_goals
   go_wp2_with (go_at_call 44;go_loud ((first|(with_reducible refine(HM.o.call hk (by omega) (by omega) (by omega)).mono ?_)|(with_reducible refine((HM.o.Y9 _).call hk (by omega) (by omega) (by omega)).mono ?_)|(with_reducible refine((HM.o.Q6p _).call hk (by omega) (by omega) (by omega)).mono ?_)|(with_reducible refine((HM.o.Q6q _).call hk (by omega) (by omega) (by omega)).mono ?_)|(with_reducible refine((HM.o.Q6r _).call hk (by omega) (by omega) (by omega)).mono ?_)|(with_reducible refine((HM.o.Q6s _).call hk (by omega) (by omega) (by omega)).mono ?_)|(with_reducible refine((HM.o.Q6t _).call hk (by omega) (by omega) (by omega)).mono ?_)|(with_reducible refine((HM.o.Q6u _).call hk (by omega) (by omega) (by omega)).mono ?_)|(with_reducible refine((HM.o.Q6v _).call hk (by omega) (by omega) (by omega)).mono ?_)|(with_reducible refine((HM.o.Q6w _).call hk (by omega) (by omega) (by omega)).mono ?_));rintro e w9 ⟨rz,hz0,hz1,rfl,hm9⟩;replace HM:=Q0 hm9;clear hm9 r0 r1 r2 r3 r4 r5 r6 r7 r8 r9 g1 g2 g3 g4 g5 g6 g7 g8 g9 lb;obtain⟨rr,hrk,hrc⟩:=HM.o.rcd;obtain⟨r0,r1,r2,r3,r4,r5,r6,r7,r8,r9⟩:=Qb hrc;rw[hrk]at r0;have g1:=Q2 hrc 1;have g2:=Q2 hrc 2;have g3:=Q2 hrc 3;have g4:=Q2 hrc 4;have g5:=Q2 hrc 5;have g6:=Q2 hrc 6;have g7:=Q2 hrc 7;have g8:=Q2 hrc 8;have g9:=Q2 hrc 9;have lb:=Q6 hrc;clear hrc hrk))
   all_goals
    go_meet
    case rel=>first|exact⟨_,⟨HM.o.more (by omega)⟩⟩|exact⟨_,⟨(HM.o.Y9 _).more (by omega)⟩⟩|exact⟨_,⟨(HM.o.Q6p _).more (by omega)⟩⟩|exact⟨_,⟨(HM.o.Q6q _).more (by omega)⟩⟩|exact⟨_,⟨(HM.o.Q6r _).more (by omega)⟩⟩|exact⟨_,⟨(HM.o.Q6s _).more (by omega)⟩⟩|exact⟨_,⟨(HM.o.Q6t _).more (by omega)⟩⟩|exact⟨_,⟨(HM.o.Q6u _).more (by omega)⟩⟩|exact⟨_,⟨(HM.o.Q6v _).more (by omega)⟩⟩|exact⟨_,⟨(HM.o.Q6w _).more (by omega)⟩⟩
 case rest=>
 clear HM r0 r1 r2 r3 r4 r5 r6 r7 r8 r9 g1 g2 g3 g4 g5 g6 g7 g8 g9 lb
 obtain⟨k9,HM⟩:=hcut
 obtain⟨wa,rfl⟩:∃wa:World,wa=wc:=⟨_,rfl⟩
 obtain⟨rr,hrk,hrc⟩:=HM.o.rcd
 obtain⟨r0,r1,r2,r3,r4,r5,r6,r7,r8,r9⟩:=Qb hrc
 rw[hrk]at r0
 have g1:=Q2 hrc 1
 have g2:=Q2 hrc 2
 have g3:=Q2 hrc 3
 have g4:=Q2 hrc 4
 have g5:=Q2 hrc 5
 have g6:=Q2 hrc 6
 have g7:=Q2 hrc 7
 have g8:=Q2 hrc 8
 have g9:=Q2 hrc 9
 have lb:=Q6 hrc
 clear hrc hrk
 go_upto_block 1 with fail
 go_cut [] from 74 to 108 (fun wx=>∃k9:Nat,Sc (Xw w0 w wx b b2 b3 a len cap zs k 10 k9 kd))
 case first=>
  all_goals
   go_wp2_with (go_at_call 44;go_loud ((first|(with_reducible refine(HM.o.call hk (by omega) (by omega) (by omega)).mono ?_)|(with_reducible refine((HM.o.Y9 _).call hk (by omega) (by omega) (by omega)).mono ?_)|(with_reducible refine((HM.o.Q6p _).call hk (by omega) (by omega) (by omega)).mono ?_)|(with_reducible refine((HM.o.Q6q _).call hk (by omega) (by omega) (by omega)).mono ?_)|(with_reducible refine((HM.o.Q6r _).call hk (by omega) (by omega) (by omega)).mono ?_)|(with_reducible refine((HM.o.Q6s _).call hk (by omega) (by omega) (by omega)).mono ?_)|(with_reducible refine((HM.o.Q6t _).call hk (by omega) (by omega) (by omega)).mono ?_)|(with_reducible refine((HM.o.Q6u _).call hk (by omega) (by omega) (by omega)).mono ?_)|(with_reducible refine((HM.o.Q6v _).call hk (by omega) (by omega) (by omega)).mono ?_)|(with_reducible refine((HM.o.Q6w _).call hk (by omega) (by omega) (by omega)).mono ?_));rintro e w9 ⟨rz,hz0,hz1,rfl,hm9⟩;replace HM:=Q0 hm9;clear hm9 r0 r1 r2 r3 r4 r5 r6 r7 r8 r9 g1 g2 g3 g4 g5 g6 g7 g8 g9 lb;obtain⟨rr,hrk,hrc⟩:=HM.o.rcd;obtain⟨r0,r1,r2,r3,r4,r5,r6,r7,r8,r9⟩:=Qb hrc;rw[hrk]at r0;have g1:=Q2 hrc 1;have g2:=Q2 hrc 2;have g3:=Q2 hrc 3;have g4:=Q2 hrc 4;have g5:=Q2 hrc 5;have g6:=Q2 hrc 6;have g7:=Q2 hrc 7;have g8:=Q2 hrc 8;have g9:=Q2 hrc 9;have lb:=Q6 hrc;clear hrc hrk))
   all_goals
    go_meet
    case rel=>first|exact⟨_,⟨HM.o.more (by omega)⟩⟩|exact⟨_,⟨(HM.o.Y9 _).more (by omega)⟩⟩|exact⟨_,⟨(HM.o.Q6p _).more (by omega)⟩⟩|exact⟨_,⟨(HM.o.Q6q _).more (by omega)⟩⟩|exact⟨_,⟨(HM.o.Q6r _).more (by omega)⟩⟩|exact⟨_,⟨(HM.o.Q6s _).more (by omega)⟩⟩|exact⟨_,⟨(HM.o.Q6t _).more (by omega)⟩⟩|exact⟨_,⟨(HM.o.Q6u _).more (by omega)⟩⟩|exact⟨_,⟨(HM.o.Q6v _).more (by omega)⟩⟩|exact⟨_,⟨(HM.o.Q6w _).more (by omega)⟩⟩
 case rest=>
 clear HM r0 r1 r2 r3 r4 r5 r6 r7 r8 r9 g1 g2 g3 g4 g5 g6 g7 g8 g9 lb
 obtain⟨k9,HM⟩:=hcut
 obtain⟨wa,rfl⟩:∃wa:World,wa=wc:=⟨_,rfl⟩
 obtain⟨rr,hrk,hrc⟩:=HM.o.rcd
 obtain⟨r0,r1,r2,r3,r4,r5,r6,r7,r8,r9⟩:=Qb hrc
 rw[hrk]at r0
 have g1:=Q2 hrc 1
 have g2:=Q2 hrc 2
 have g3:=Q2 hrc 3
 have g4:=Q2 hrc 4
 have g5:=Q2 hrc 5
 have g6:=Q2 hrc 6
 have g7:=Q2 hrc 7
 have g8:=Q2 hrc 8
 have g9:=Q2 hrc 9
 have lb:=Q6 hrc
 clear hrc hrk
 clear r0 r1 r2 r3 r4 r5 r6 r7 r8 r9 g1 g2 g3 g4 g5 g6 g7 g8 g9
 obtain⟨rr,hrk,hrc⟩:=HM.o.rcd
 obtain⟨r0,r1,r2,r3,r4,r5,r6,r7,r8,r9⟩:=Qb hrc
 obtain⟨y0,y1,y2,y3,y4,y5,y6,y7,y8,y9⟩:=Qb HM.o.res
 have z0:=Q2 HM.o.res 0
 have z1:=Q2 HM.o.res 1
 have z2:=Q2 HM.o.res 2
 have z3:=Q2 HM.o.res 3
 have z4:=Q2 HM.o.res 4
 have z5:=Q2 HM.o.res 5
 have z6:=Q2 HM.o.res 6
 have z7:=Q2 HM.o.res 7
 have z8:=Q2 HM.o.res 8
 have z9:=Q2 HM.o.res 9
 clear hrk hrc
 go_wp2
 refine bodyPost_ret (v:=Yg rr) (by simp[results,Tryz.results15,go_sem,y0,y1,y2,y3,y4,y5,y6,y7,y8,y9]) rfl ⟨rr,k9,rfl,HM.o.seq.kp X7o ?_ ?_,by have:=HM.o.few;omega,HM.o.kp.trans X7o (fun q hq=> .inr (by rw[hq];exact HM.o.X5l))⟩
 ·have:=HM.o.old;have:=HM.o.X5l;omega
 ·have:=HM.o.old;have:=HM.o.X5l;have:=HM.o.seq.new;omega
end
theorem Uf.bel{k:IntKind}{w w':World}{a:Option Addr}{len cap:Nat}{zs:List Int}(h:Uf k w a len cap zs)(hb:Below w.heap.size w w'):Uf k w' a len cap zs:=by
 rcases h with h|⟨x,h1,h2,h3,h4,h5,h6⟩
 ·exact .inl h
 ·exact .inr ⟨x,h1,h2,h3,h4,fun i hi=>by rw[hb.cell (World.block_lt_of_cell? w _ (h5 i hi))];exact h5 i hi,h6⟩
structure Y1g(p q f s:Int):Prop where
 p1:1<=p
 p4:p<=4
 q1:2<=q
 q4:q<=31
 f1:1<=f
 f4:f<=4
 s1:1<=s
 s4:s<=4
def Y3w(w0 w:World)(b:Nat)(a:Option Addr)(len cap:Nat)(zs:List Int)(k:Nat)(e:Ending)(w':World):Prop:=
 ∃p q f s,Y1g p q f s/\e=.returned (.agg #[.int .i64 p,.int .i64 q,.int .i64 f,.int .i64 s])/\Xd w0 w' b a len cap zs (k+4)/\Kp (fun q=>q=b) w w'
theorem X8c{w1:World}{b:Nat}{t:TypeId}{x y z u:Value}(h:w1.heap[b]? =some (.cells #[x,y,z,u] t (0,0))):
  w1.cell? ⟨b,0,none⟩=some x/\w1.cell? ⟨b,1,none⟩=some y/\w1.cell? ⟨b,2,none⟩=some z/\w1.cell? ⟨b,3,none⟩=some u/\w1.frozen? ⟨b,0,none⟩=false/\w1.frozen? ⟨b,1,none⟩=false/\w1.frozen? ⟨b,2,none⟩=false/\w1.frozen? ⟨b,3,none⟩=false/\b<w1.heap.size:=
 ⟨by simp[World.cell?,h],by simp[World.cell?,h],by simp[World.cell?,h],by simp[World.cell?,h],Q2 h 0,Q2 h 1,Q2 h 2,Q2 h 3,Q6 h⟩
theorem Y2l{w:World}{b:Nat}{u0 u1 u2 u3:Value}:Kp (fun q=>q=b) w ((((w.setCell ⟨b,0,none⟩ u0).setCell ⟨b,1,none⟩ u1).setCell ⟨b,2,none⟩ u2).setCell ⟨b,3,none⟩ u3):=
 (((Kp.setCell w ⟨b,0,none⟩ u0).trans (Kp.setCell _ ⟨b,1,none⟩ u1) (fun _ hq=> .inl hq)).trans (Kp.setCell _ ⟨b,2,none⟩ u2) (fun _ hq=> .inl hq)).trans (Kp.setCell _ ⟨b,3,none⟩ u3) (fun _ hq=> .inl hq)
abbrev cz:Array Value:= #[.int .i64 0,.int .i64 0,.int .i64 0,.int .i64 0]
set_option maxRecDepth 4000 in
set_option maxHeartbeats 2000000 in
theorem Q4o(w0 w:World)(b:Nat)(a:Option Addr)(len cap:Nat)(zs:List Int)(k:Nat)(h:Xd w0 w b a len cap zs k)(hk:k<=1000):
  Calls Tryz.prog 47 #[.pointer (some ⟨b,0,none⟩)] w (Y3w w0 w b a len cap zs k):=by
 have HS:=Q0 (h.bel (Q3 (Below.refl w.heap.size w) (.cells cz 63)))
 have HZ:=Q0 (heap_alloc_new w (.cells cz 63))
 have HBN:Sc (b<w.heap.size/\w0.heap.size<=w.heap.size):=⟨Q6 h.cells,h.below.size⟩
 have HK0:Sc (Kp (fun q=>q=b) w (w.alloc (.cells cz 63))):=⟨Kp.alloc w _ _⟩
 obtain⟨w1,hw1⟩:∃w1,w.alloc (.cells cz 63)=w1:=⟨_,rfl⟩
 obtain⟨b2,hb2⟩:∃b2,w.heap.size=b2:=⟨_,rfl⟩
 rw[hw1]at HS HZ HK0
 rw[hb2]at HZ
 have hne:b2≠b:=by have:=HBN.o;omega
 have HW2:Sc (w.heap.size<=b2):=⟨by omega⟩
 clear h
 go_enter Tryz.func47,Tryz.ntmps47
 go_wp2_with fail
 clear hw1 hb2
 refine(Zk w0 _ b a len cap zs k 4 HS.o (by omega) (by omega) (by omega)).mono ?_
 rintro e w2 ⟨r1,h10,h11,rfl,hs1,hk1⟩
 have HS1:=Q0 hs1
 have HK1:=Q0 (HK0.o.trans hk1 (fun _ hq=> .inl hq))
 have HZ1:=Q0 (hk1.at HZ.o hne)
 clear hs1 hk1
 go_wp2_with fail
 refine(Zk w0 _ b a len cap zs (k+1) 30 HS1.o (by omega) (by omega) (by omega)).mono ?_
 rintro e w3 ⟨r2,h20,h21,rfl,hs2,hk2⟩
 have HS2:=Q0 hs2
 have HK2:=Q0 (HK1.o.trans hk2 (fun _ hq=> .inl hq))
 have HZ2:=Q0 (hk2.at HZ1.o hne)
 clear hs2 hk2
 go_wp2_with fail
 refine(Zk w0 _ b a len cap zs (k+1+1) 4 HS2.o (by omega) (by omega) (by omega)).mono ?_
 rintro e w4 ⟨r3,h30,h31,rfl,hs3,hk3⟩
 have HS3:=Q0 hs3
 have HK3:=Q0 (HK2.o.trans hk3 (fun _ hq=> .inl hq))
 have HZ3:=Q0 (hk3.at HZ2.o hne)
 clear hs3 hk3
 go_wp2_with fail
 refine(Zk w0 _ b a len cap zs (k+1+1+1) 4 HS3.o (by omega) (by omega) (by omega)).mono ?_
 rintro e w5 ⟨r4,h40,h41,rfl,hs4,hk4⟩
 have HS4:=Q0 hs4
 have HK4:=Q0 (HK3.o.trans hk4 (fun _ hq=> .inl hq))
 have HZ4:=Q0 (hk4.at HZ3.o hne)
 obtain⟨q0,q1,q2,q3,y0,y1,y2,y3,lz⟩:=X8c HZ4.o
 have HOK:Sc (Y1g (1+r1) (2+r2) (1+r3) (1+r4)):=⟨⟨by omega,by omega,by omega,by omega,by omega,by omega,by omega,by omega⟩⟩
 clear hs4 hk4
 go_wp2
 refine bodyPost_ret (v:=.agg #[.int .i64 (1+r1),.int .i64 (2+r2),.int .i64 (1+r3),.int .i64 (1+r4)]) (by simp[results,Tryz.results47,go_sem,q0,q1,q2,q3]) rfl ⟨_,_,_,_,HOK.o,rfl,?_,HK4.o.trans Y2l (fun q hq=> .inr (by rw[hq];exact HW2.o))⟩
 exact HS4.o.kp Y2l (fun h=>hne h.symm) (by have:=HBN.o;have:=HW2.o;omega)
end Go.Proofs.YtoapihepdallbaaGreatDoor
