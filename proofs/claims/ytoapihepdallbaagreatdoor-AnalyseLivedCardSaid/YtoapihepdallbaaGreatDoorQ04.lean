import Derived.Test.YtoapihepdallbaaGreatDoorP16
import Derived.Test.YtoapihepdallbaaGreatDoorQ01
namespace Go.Proofs.YtoapihepdallbaaGreatDoor
open Go.RowKit
set_option maxRecDepth 4000 in
set_option maxHeartbeats 2000000 in
theorem O5(w:World)(ba bb bc bd:Nat)(vt vd ut ud:Value)(t:List TX)(d:List (Int×Int))(m:Int)(h1:Own Qg 4 58 ba w vt t)(h2:Own Qj 2 60 bb w vd d)(h3:Own Qg 4 58 bc w ut t)(h4:Own Qj 2 60 bd w ud d)(ht:t.length<=1000000)(hd:d.length<=1000000):
  Calls Tryz.prog 11 #[.agg #[vt,vd,.int .i64 m],.agg #[ut,ud,.int .i64 m]] w fun e w'=>e=.returned (.bool true)/\Below w.heap.size w w':=by
 obtain⟨A1,n1,c1,rfl⟩:=h1.slice3
 obtain⟨A2,n2,c2,rfl⟩:=h2.slice3
 obtain⟨A3,n3,c3,rfl⟩:=h3.slice3
 obtain⟨A4,n4,c4,rfl⟩:=h4.slice3
 have HB1:Sc (Below w.heap.size w ((w.alloc (.cells #[.slice A1 n1 c1,.slice A2 n2 c2,.int .i64 m] 34)).alloc (.cells #[.slice A3 n3 c3,.slice A4 n4 c4,.int .i64 m] 39))):=⟨Q3 (Q3 (Below.refl _ _) _) _⟩
 have HC1:=Q0 (upa (heap_alloc_new w (.cells #[.slice A1 n1 c1,.slice A2 n2 c2,.int .i64 m] 34)) (.cells #[.slice A3 n3 c3,.slice A4 n4 c4,.int .i64 m] 39))
 have HC2:Sc (((w.alloc (.cells #[.slice A1 n1 c1,.slice A2 n2 c2,.int .i64 m] 34)).alloc (.cells #[.slice A3 n3 c3,.slice A4 n4 c4,.int .i64 m] 39)).heap[w.heap.size+1]? =some (.cells #[.slice A3 n3 c3,.slice A4 n4 c4,.int .i64 m] 39 (0,0))):=⟨by have:=heap_alloc_new (w.alloc (.cells #[.slice A1 n1 c1,.slice A2 n2 c2,.int .i64 m] 34)) (.cells #[.slice A3 n3 c3,.slice A4 n4 c4,.int .i64 m] 39);simpa using this⟩
 have H1:=Q0 (h1.below HB1.o)
 have H2:=Q0 (h2.below HB1.o)
 have H3:=Q0 (h3.below HB1.o)
 have H4:=Q0 (h4.below HB1.o)
 have HL:=Q0 (And.intro ht hd)
 clear h1 h2 h3 h4 ht hd
 go_enter Tryz.func11,Tryz.ntmps11
 go_wp2_with fail
 refine(Q0v _ ba bc _ _ t H1.o H3.o HL.o.1).mono ?_
 obtain⟨w1,hw1⟩:∃w1,(w.alloc (.cells #[.slice A1 n1 c1,.slice A2 n2 c2,.int .i64 m] 34)).alloc (.cells #[.slice A3 n3 c3,.slice A4 n4 c4,.int .i64 m] 39)=w1:=⟨_,rfl⟩
 obtain⟨b1,hb1⟩:∃b,w.heap.size=b:=⟨_,rfl⟩
 obtain⟨b2,hb2⟩:∃b,b1+1=b:=⟨_,rfl⟩
 rw[hw1]at HB1 HC1 HC2 H2 H4 ⊢
 rw[hb1]at HC1
 rw[hb1,hb2]at HC2
 simp only[hb1,hb2]
 rintro e w2 ⟨rfl,hb⟩
 have HB2:=Q0 (Q5 HB1.o hb)
 have HQ2:=Q0 hb
 obtain⟨p0,p1,p2⟩:=X7 (up hb HC1.o)
 obtain⟨q0,q1,q2⟩:=X7 (up hb HC2.o)
 have lp:=Q6 (up hb HC1.o)
 have lq:=Q6 (up hb HC2.o)
 clear hb hw1 hb1 hb2 H1 H3
 go_wp2_with fail
 refine(Q4b w2 bb bd _ _ d (H2.o.below HQ2.o) (H4.o.below HQ2.o) HL.o.2).mono ?_
 rintro e w3 ⟨rfl,hb⟩
 have HB3:=Q0 (Q5 HB2.o hb)
 have HQ3:=Q0 (Q5 HQ2.o hb)
 clear hb p0 p1 p2 q0 q1 q2 lp lq
 obtain⟨p0,p1,p2⟩:=X7 (up HQ3.o HC1.o)
 obtain⟨q0,q1,q2⟩:=X7 (up HQ3.o HC2.o)
 have lp:=Q6 (up HQ3.o HC1.o)
 have lq:=Q6 (up HQ3.o HC2.o)
 go_wp2
 go_ret
 exact⟨rfl,HB3.o⟩
theorem X1a(L:List Q9)(bs pages Xe:Int):(Zc L bs pages Xe).2.t.length<=L.length/\(Zc L bs pages Xe).2.d.length<=L.length:=by
 have hrun:∀(l:List Q9) (lsn:Int) (s:An),(Xz bs lsn l s).2.t.length<=s.t.length+l.length/\(Xz bs lsn l s).2.d.length<=s.d.length+l.length:=by
  intro l
  induction l with
  |nil=>intro lsn s;exact⟨Nat.le_refl _,Nat.le_refl _⟩
  |cons r rs ih=>
   intro lsn s
   have h1:=Q1q (bs:=bs) lsn r s
   have h2:=ih (lsn+1) (Xc bs lsn r s).2
   rw[Xz]
   split
   ·rw[List.length_cons];omega
   ·rw[List.length_cons];show(Xc bs lsn r s).2.t.length<=_/\(Xc bs lsn r s).2.d.length<=_;omega
 have hres:∀(last:Int) (x:Option Int×An) (n:Nat),x.2.t.length<=n/\x.2.d.length<=n->(Y7 last x).2.t.length<=n/\(Y7 last x).2.d.length<=n:=by
  intro last x n h
  unfold Y7
  split
  ·exact⟨Nat.zero_le _,Nat.zero_le _⟩
  ·split
   ·exact⟨Nat.zero_le _,Nat.zero_le _⟩
   ·exact h
 unfold Zc
 split
 ·exact⟨Nat.zero_le _,Nat.zero_le _⟩
 split
 ·refine hres _ _ _ ?_
  have:=hrun L (bs+1) (An.zero false)
  simpa using this
 split
 ·split
  ·refine hres _ _ _ ?_
   have:=hrun (L.drop (Xe - bs).toNat) (Xe+1) (An.zero true)
   simp at this
   omega
  ·exact⟨Nat.zero_le _,Nat.zero_le _⟩
 ·exact⟨Nat.zero_le _,Nat.zero_le _⟩
end Go.Proofs.YtoapihepdallbaaGreatDoor
