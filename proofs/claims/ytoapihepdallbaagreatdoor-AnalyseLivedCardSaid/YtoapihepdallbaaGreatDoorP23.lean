import Derived.StillTailTactics
import Derived.Test.YtoapihepdallbaaGreatDoorP21
import Derived.Test.YtoapihepdallbaaGreatDoorP22
namespace Go.Proofs.YtoapihepdallbaaGreatDoor
open Go.RowKit
def Q4z(b:List Int)(i:Nat):Int×Int:=(J9 b (16+12*i) 4,IntKind.i64.wrap (J9 b (20+12*i) 8))
def V4(b:List Int)(m:Nat):List (Int×Int):=(List.range m).map (Q4z b)
def Q5a(b:List Int):Nat:=min (J9 b 4 2).toNat 20
def Eg(b:List Int):List (Int×Int):=V4 b (Q5a b)
def Uh(b:List Int):Prop:=OkP (J9 b 0 4) (Eg b)/\Yk (J9 b 0 4) (Eg b)=b
theorem U9(b:List Int)(m:Nat):(V4 b m).length=m:=by simp[V4]
theorem X5v(b:List Int)(m:Nat):V4 b (m+1)=V4 b m++[Q4z b m]:=by unfold V4;rw[List.range_succ,List.map_append];rfl
theorem RdB.drew{w:World}{v:Value}{l:List Int}(h:RdB w v l):RdB w.drew v l:=h
theorem RdB.alloc{w:World}{v:Value}{l:List Int}(h:RdB w v l)(o:Obj):RdB (w.alloc o) v l:=h.bel ((Below.refl _ _).alloc (Nat.le_refl _) o)
theorem U8{b:List Int}{a s j:Nat}(n:Int)(h1:a<=j)(h2:j<a+s)(h3:j<b.length):(U7 b a s n).getD j 0=dig (j - a) n:=by
 rw[List.getD_eq_getElem?_getD,Eu b a s n h3,if_pos ⟨h1,h2⟩];rfl
theorem Gj{b:List Int}{a s j:Nat}(n:Int)(h:j<a\/a+s<=j):(U7 b a s n).getD j 0=b.getD j 0:=by
 rcases Nat.lt_or_ge j b.length with h3|h3
 ·rw[List.getD_eq_getElem?_getD,Eu b a s n h3,if_neg (by omega)];rfl
 ·rw[List.getD_eq_getElem?_getD,List.getD_eq_getElem?_getD,List.getElem?_eq_none (by rw[Xl];exact h3),List.getElem?_eq_none h3]
theorem Q4g{b:List Int}{k j:Nat}{x:Int×Int}(h:j<16+12*k\/28+12*k<=j):(X4u b k x).getD j 0=b.getD j 0:=by
 unfold X4u
 rw[Gj _ (by omega),Gj _ (by omega)]
theorem Q8c{b:List Int}{l:List (Int×Int)}{j:Nat}(k:Nat)(h:j<16):(Vx b l k).getD j 0=b.getD j 0:=by
 induction k with
 |zero=>rfl
 |succ k ih=>unfold Vx;rw[Q4g (by omega),ih]
theorem X8l{b:List Int}{l:List (Int×Int)}{i j:Nat}(k:Nat)(hi:i<k)(h1:16+12*i<=j)(h2:j<20+12*i)(hb:j<b.length):(Vx b l k).getD j 0=dig (j - (16+12*i)) (IntKind.u64.wrap (l.getD i (0,0)).1):=by
 induction k with
 |zero=>omega
 |succ k ih=>
  unfold Vx
  rcases Nat.lt_or_ge i k with h|h
  ·rw[Q4g (by omega),ih h]
  ·obtain rfl:i=k:=by omega
   unfold X4u
   rw[Gj _ (by omega),U8 _ h1 (by omega) (by rw[U2];exact hb)]
theorem X8m{b:List Int}{l:List (Int×Int)}{i j:Nat}(k:Nat)(hi:i<k)(h1:20+12*i<=j)(h2:j<28+12*i)(hb:j<b.length):(Vx b l k).getD j 0=dig (j - (20+12*i)) (IntKind.u64.wrap (l.getD i (0,0)).2):=by
 induction k with
 |zero=>omega
 |succ k ih=>
  unfold Vx
  rcases Nat.lt_or_ge i k with h|h
  ·rw[Q4g (by omega),ih h]
  ·obtain rfl:i=k:=by omega
   unfold X4u
   rw[U8 _ h1 (by omega) (by rw[Xl,U2];exact hb)]
def G6(l:List (Int×Int)):Prop:=∀x∈l, -9223372036854775808<=x.2/\x.2<=9223372036854775807
theorem X9f(n:Int)(m:Nat){j:Nat}(h:j<4):(Gx n m).getD j 0=dig j (IntKind.u64.wrap n):=by
 unfold Gx
 rw[Gj _ (by omega),U8 _ (by omega) (by omega) (by rw[Yy];omega),Nat.sub_zero]
theorem X9e(n:Int)(m:Nat){j:Nat}(h1:4<=j)(h2:j<6):(Gx n m).getD j 0=dig (j - 4) (m:Int):=by
 unfold Gx
 rw[U8 _ h1 (by omega) (by rw[Xl,Yy];omega)]
def X0r(n:Int)(l:List (Int×Int))(b:List Int):Prop:=∀j,(j<6\/(16<=j/\j<16+12*l.length))->b.getD j 0=(Yk n l).getD j 0
theorem Y4g{n:Int}{l:List (Int×Int)}{b:List Int}(h:X0r n l b)(h0:0<=n)(h1:n<=1073741824):J9 b 0 4=n:=by
 rw[Cx (x:=IntKind.u64.wrap n) 4 (fun i hi=>by rw[Nat.zero_add,h i (by omega)];unfold Yk;rw[Q8c _ (by omega),X9f _ _ hi]),Ue n h0 (by omega)]
 omega
theorem X7g{n:Int}{l:List (Int×Int)}{b:List Int}(h:X0r n l b)(h1:l.length<=20):J9 b 4 2=(l.length:Int):=by
 rw[Cx (x:=(l.length:Int)) 2 (fun i hi=>by rw[h (4+i) (by omega)];unfold Yk;rw[Q8c _ (by omega),X9e _ _ (by omega) (by omega)];congr 1;omega)]
 omega
theorem Y4e{n:Int}{l:List (Int×Int)}{b:List Int}(h:X0r n l b)(h1:l.length<=20){i:Nat}{x:Int×Int}(hx:l[i]? =some x)(hk0:0<=x.1)(hk1:x.1<1048576)(hv0: -9223372036854775808<=x.2)(hv1:x.2<=9223372036854775807):Q4z b i=x:=by
 have hi:i<l.length:=(List.getElem?_eq_some_iff.1 hx).1
 have hg:l.getD i (0,0)=x:=by rw[List.getD_eq_getElem?_getD,hx];rfl
 have e1:J9 b (16+12*i) 4=x.1:=by
  rw[Cx (x:=IntKind.u64.wrap x.1) 4 (fun t ht=>by rw[h _ (by omega)];unfold Yk;rw[X8l l.length hi (by omega) (by omega) (by rw[U4];omega),hg];congr 1;omega),Ue x.1 hk0 (by omega)]
  omega
 have e2:J9 b (20+12*i) 8=IntKind.u64.wrap x.2:=by
  rw[Cx (x:=IntKind.u64.wrap x.2) 8 (fun t ht=>by rw[h _ (by omega)];unfold Yk;rw[X8m l.length hi (by omega) (by omega) (by rw[U4];omega),hg];congr 1;omega),IntKind.wrap_u64]
  omega
 unfold Q4z
 rw[e1,e2,IntKind.wrap_u64,IntKind.wrap_i64]
 refine Prod.ext rfl ?_
 show(x.2 % 18446744073709551616+9223372036854775808) % 18446744073709551616 - 9223372036854775808=x.2
 omega
theorem Y4f{n:Int}{l:List (Int×Int)}{b:List Int}(h:X0r n l b)(hok:OkP n l)(hv:G6 l):Eg b=l:=by
 have hm:Q5a b=l.length:=by unfold Q5a;rw[X7g h hok.2.2.1];have:=hok.2.2.1;omega
 unfold Eg
 rw[hm]
 apply List.ext_getElem?
 intro i
 rcases Nat.lt_or_ge i l.length with hi|hi
 ·obtain⟨x,hx⟩:∃x,l[i]? =some x:=⟨_,List.getElem?_eq_getElem hi⟩
  have hk:=hok.2.2.2.2 i x hi hx
  have hvx:=hv x (List.mem_of_getElem? hx)
  unfold V4
  rw[List.getElem?_map,List.getElem?_range hi,hx]
  show some (Q4z b i)=some x
  rw[Y4e h hok.2.2.1 hx hk.1 hk.2.1 hvx.1 hvx.2]
 ·rw[List.getElem?_eq_none (by rw[U9];exact hi),List.getElem?_eq_none hi]
theorem Y2r{n:Int}{l:List (Int×Int)}(hok:OkP n l)(hv:G6 l):Uh (Yk n l)/\J9 (Yk n l) 0 4=n/\Eg (Yk n l)=l:=by
 have ha:X0r n l (Yk n l):=fun _ _=>rfl
 have h1:=Y4g ha hok.1 hok.2.1
 have h2:=Y4f ha hok hv
 refine⟨?_,h1,h2⟩
 unfold Uh
 rw[h1,h2]
 exact⟨hok,rfl⟩
theorem Zx.bel{w W W':World}{b:Nat}{n:Int}{v:Value}{l:List (Int×Int)}(h:Zx w W b n v l)(hb:Below W.heap.size W W'):Zx w W' b n v l:=
 ⟨Q5 h.below hb,h.new,up hb h.cells,h.own.below hb,h.apart⟩
def X0u(b:List Int)(w:World)(e:Ending)(w':World):Prop:=
 ((b.length≠256/\e=.returned (.tuple #[Zn 0 (.slice none 0 0),.int .i64 103]))\/
  (b.length=256/\Uh b/\∃A k c,e=.returned (.tuple #[Zn (J9 b 0 4) (.slice A k c),.int .i64 0])/\Own Qj 2 227 w.heap.size w' (.slice A k c) (Eg b))\/
  (b.length=256/\¬Uh b/\e=.returned (.tuple #[Zn 0 (.slice none 0 0),.int .i64 107])))/\Below w.heap.size w w'
theorem X5w{b:List Int}(h:Uh b):J9 b 4 2=((Eg b).length:Int):=by
 have h1:=X7g (n:=J9 b 0 4) (l:=Eg b) (b:=b) (fun j _=>by rw[h.2]) h.1.2.2.1
 exact h1
theorem X5x{b:List Int}(hb:Byt b){M:Nat}(hM:M=min (J9 b 4 2).toNat 21):Uh b↔OkP (J9 b 0 4) (V4 b M)/\Yk (J9 b 0 4) (V4 b M)=b:=by
 have h0:=Dd hb 4 2
 rcases Nat.lt_or_ge 20 (J9 b 4 2).toNat with h|h
 ·constructor
  ·intro hr
   have h1:=X5w hr
   have h2:=hr.1.2.2.1
   omega
  ·intro ⟨h1,_⟩
   have h2:=h1.2.2.1
   rw[U9]at h2
   omega
 ·have:Q5a b=M:=by unfold Q5a;omega
  unfold Uh Eg
  rw[this]
theorem Y2u{b:List Int}(hb:Byt b){M:Nat}(hM:M=min (J9 b 4 2).toNat 21)(h:M<=20):Eg b=V4 b M:=by
 have h0:=Dd hb 4 2
 have:Q5a b=M:=by unfold Q5a;omega
 unfold Eg
 rw[this]
set_option maxRecDepth 4000 in
set_option maxHeartbeats 2000000 in
theorem X2t(w:World)(v:Value)(b:List Int)(hrd:RdB w v b)(hyt:Byt b)(hlen:b.length<=1000000):
  Calls Tryz.prog 150 #[v] w (X0u b w):=by
 obtain⟨A,c,rfl⟩:=hrd.slice
 obtain⟨N,hN⟩:∃N,b.length=N:=⟨_,rfl⟩
 rw[hN]at hrd hlen ⊢
 have HN:=Q0 hN
 have HY:=Q0 hyt
 have HRD:=Q0 (hrd.alloc (.cells #[.int .i64 0,.slice none 0 0] 197))
 have HW1:Sc (Below w.heap.size w (w.alloc (.cells #[.int .i64 0,.slice none 0 0] 197))):=⟨(Below.refl _ _).alloc (Nat.le_refl _) _⟩
 have HZ:Sc ((w.alloc (.cells #[.int .i64 0,.slice none 0 0] 197)).heap[w.heap.size]? =some (.cells #[.int .i64 0,.slice none 0 0] 197 (0,0))):=⟨heap_alloc_new _ _⟩
 obtain⟨i0,hi0,hz0,hz1,hz2⟩:=info_parts Q4l
 clear hN hyt hrd
 by_cases h256:N=256
 ·subst h256
  obtain⟨n,hn⟩:∃n,J9 b 0 4=n:=⟨_,rfl⟩
  obtain⟨q,hq⟩:∃q,J9 b 4 2=q:=⟨_,rfl⟩
  obtain⟨M,hM⟩:∃M,min (J9 b 4 2).toNat 21=M:=⟨_,rfl⟩
  have hn0:0<=n:=by rw[<-hn];exact Dd HY.o _ _
  have hn1:n<4294967296:=by rw[<-hn];exact Q3f HY.o _ _
  have hq0:0<=q:=by rw[<-hq];exact Dd HY.o _ _
  have hq1:q<65536:=by rw[<-hq];exact Q3f HY.o _ _
  have hm:(if(21:Int)<q then(21:Int) else q)=(M:Int):=by rw[<-hM,hq];split<;>omega
  have hM21:M<=21:=by omega
  have HNQ:=Q0 hn
  have HQQ:=Q0 hq
  have HMM:=Q0 hM
  have hwn:IntKind.i64.wrap n=n:=IntWalk.i64_in _ ⟨by omega,by omega⟩
  have hwq:IntKind.i64.wrap q=q:=IntWalk.i64_in _ ⟨by omega,by omega⟩
  have HV0:Sc (Zx (w.alloc (.cells #[.int .i64 0,.slice none 0 0] 197)) ((w.alloc (.cells #[.int .i64 0,.slice none 0 0] 197)).alloc (.cells #[.int .i64 n,.slice none 0 0] 197)) (w.heap.size+1) n (.slice none 0 0) []):=⟨by
   have:=Zx.made (n:=n) (Below.refl (w.alloc (.cells #[.int .i64 0,.slice none 0 0] 197)).heap.size (w.alloc (.cells #[.int .i64 0,.slice none 0 0] 197))) (Own.nil (e:= 227) (sz:=2) (enc:=Qj)) (Nat.le_refl _)
   simpa using this⟩
  clear hn hq hM
  go_enter Tryz.func150,Tryz.ntmps150
  go_wp2_with fail
  refine(E1 _ _ b _ _ 0 4 HRD.o (by omega) (by omega) HY.o (by rw[HN.o];omega) (by omega) (by omega) (by omega)).mono ?_
  rw[HNQ.o]
  rintro e w3 ⟨rfl,rfl⟩
  go_wp2_with fail
  refine(E1 _ _ b _ _ 4 2 (HRD.o.alloc _) (by omega) (by omega) HY.o (by rw[HN.o];omega) (by omega) (by omega) (by omega)).mono ?_
  rw[HQQ.o]
  rintro e w3 ⟨rfl,rfl⟩
  clear hwq hwn
  go_wp2_with fail
  go_loopg [6] M (fun kx s6 wr=>∃(i:Nat) (A6:Option Addr) (k6 c6:Nat),s6=.int .i64 i/\i<=M/\M - i<=kx/\Sc (Zx (w.alloc (.cells #[.int .i64 0,.slice none 0 0] 197)) wr (w.heap.size+1) n (.slice A6 k6 c6) (V4 b i)))
  case atStart=>exact⟨0,_,_,_,rfl,by omega,by omega,HV0⟩
  case round=>
   obtain⟨i,A6,k6,c6,rfl,hi,hg,HP⟩:=hrel
   by_cases hlt:i<M
   ·obtain⟨ky,hky⟩:∃ky,J9 b (16+12*i) 4=ky:=⟨_,rfl⟩
    obtain⟨vl,hvl⟩:∃vl,J9 b (20+12*i) 8=vl:=⟨_,rfl⟩
    have hk0:0<=ky:=by rw[<-hky];exact Dd HY.o _ _
    have hk1:ky<4294967296:=by rw[<-hky];exact Q3f HY.o _ _
    have HXE:Sc (Q4z b i=(ky,IntKind.i64.wrap vl)):=⟨by unfold Q4z;rw[hky,hvl]⟩
    have HKY:=Q0 hky
    have HVL:=Q0 hvl
    have HRW:=Q0 (HRD.o.bel HP.o.below)
    have HEQ:Sc ((16:Int)+12*(i:Int)=((16+12*i:Nat):Int)/\(20:Int)+12*(i:Int)=((20+12*i:Nat):Int)):=⟨by omega,by omega⟩
    have HI:Sc (16+12*i<=1000000/\20+12*i<=1000000):=⟨by omega,by omega⟩
    have hi21:i<21:=by omega
    have hil:(i:Int)<M:=by omega
    obtain⟨e0,e1⟩:=Qf HP.o.cells
    have f1:=Q2 HP.o.cells 1
    have l1:=Q6 HP.o.cells
    have HLL:Sc ((V4 b i).length=i):=⟨U9 b i⟩
    clear hky hvl
    go_upto_region 8 with fail
    have hwa:IntKind.i64.wrap (12*(i:Int))=12*(i:Int):=IntWalk.i64_in _ ⟨by omega,by omega⟩
    have hwb:IntKind.i64.wrap (16+12*(i:Int))=16+12*(i:Int):=IntWalk.i64_in _ ⟨by omega,by omega⟩
    have hwc:IntKind.i64.wrap (20+12*(i:Int))=20+12*(i:Int):=IntWalk.i64_in _ ⟨by omega,by omega⟩
    have hw2:IntKind.i64.wrap ky=ky:=IntWalk.i64_in _ ⟨by omega,by omega⟩
    obtain⟨vw,hvw⟩:∃vw,IntKind.i64.wrap vl=vw:=⟨_,rfl⟩
    obtain⟨m,hmm⟩:∃m,V4 b i=m:=⟨_,rfl⟩
    rw[hmm]at HP HLL
    have HM1:Sc (V4 b (i+1)=m++[(ky,vw)]):=⟨by rw[X5v,hmm,HXE.o,hvw]⟩
    have HA2:Sc (m.length+1<=maxLen):=⟨by rw[HLL.o];unfold maxLen;omega⟩
    have HA3:Sc ((m.length+1)*16<=140737488355328):=⟨by rw[HLL.o];omega⟩
    have HLW:Sc ((w.alloc (.cells #[.int .i64 0,.slice none 0 0] 197)).heap.size<=wr.heap.size):=⟨HP.o.below.size⟩
    clear hmm
    go_region_law (first|((refine step_append_lies _ (by rfl) (.tmp 25) (.tmp 39) 195 (by rfl) (w.alloc (.cells #[.int .i64 0,.slice none 0 0] 197)).heap.size 227 i0 (.agg #[.int .i64 0,.int .i64 0]) 2 16 Tryz.underlying195 hi0 hz0 hz1 hz2 rfl (by decide) _ m.length (flat Qj m) (by rfl) ((HP.o.own.alloc _).drew) ⟨wr.heap.size,0,none⟩ 1 1 (Qj (ky,vw)) (by rfl) (by rfl) (World.news_of_block (heap_alloc_new wr (.cells (Qj (ky,vw)).toArray 227))) (Xh.one (ky,vw)) Nat.one_pos HA2.o HA3.o (by have:=HLW.o;simp at this ⊢;omega) (wr.heap.size+1) (by simp) ?_;intro ge ce we h1 h2 h3 h4;obtain⟨hce,hpv⟩:=HP.o.append h1 (Zp h2) h3;have c1:=(Qf hce).2;have f2:=Q2 hce 1;have HPV:=Q0 hpv;clear h1 h2 h3 h4 hce hpv))|(go_simp;go_at_call 162;(with_reducible refine(E1 _ _ b _ _ (16+12*i) 4 (by first|with_reducible exact HRW.o|with_reducible exact HRW.o.drew) (by with_reducible exact HEQ.o.1) (by omega) HY.o (by rw[HN.o];omega) (by exact HI.o.1) (by omega) (by omega)).mono ?_);rw[HKY.o];rintro e w3 ⟨rfl,rfl⟩)|(go_simp;go_at_call 162;(with_reducible refine(E1 _ _ b _ _ (20+12*i) 8 (by first|with_reducible exact HRW.o|with_reducible exact HRW.o.drew) (by with_reducible exact HEQ.o.2) (by omega) HY.o (by rw[HN.o];omega) (by exact HI.o.2) (by omega) (by omega)).mono ?_);rw[HVL.o];rintro e w3 ⟨rfl,rfl⟩))
    all_goals
     clear hw2 hvw hwa hwb hwc
     go_wp2
     go_roundg (M - (i+1))
     case measure=>omega
     case rel=>exact⟨i+1,_,_,_,by go_num,by omega,Nat.le_refl _,⟨by rw[HM1.o];exact HPV.o⟩⟩
   ·obtain rfl:i=M:=by omega
    have HBR:Sc (Below w.heap.size w wr):=⟨Q5 HW1.o HP.o.below⟩
    have hzr:=(HP.o.below.block _ (Q6 HZ.o)).trans HZ.o
    obtain⟨e0,e1⟩:=Qf HP.o.cells
    have HZR:=Q0 hzr
    have HLR:Sc ((V4 b i).length=i):=⟨U9 b i⟩
    have HIFF:Sc (Uh b↔OkP n (V4 b i)/\Yk n (V4 b i)=b):=⟨by rw[<-HNQ.o];exact X5x HY.o HMM.o.symm⟩
    have HPP:Sc (i<=20->Eg b=V4 b i):=⟨Y2u HY.o HMM.o.symm⟩
    clear hzr
    go_wp2_with fail
    refine(Q2l _ n _ (V4 b i) HP.o.own.rdE (by rw[HLR.o];omega)).mono ?_
    rintro e w2 ⟨hres,hb2⟩
    have HP2:=Q0 (HP.o.bel hb2)
    have HZ2:=Q0 ((hb2.block _ (Q6 HZR.o)).trans HZR.o)
    have HR2:=Q0 ((HRD.o.bel HP.o.below).bel hb2)
    have HB2:Sc (Below w.heap.size w w2):=⟨Q5 HBR.o hb2⟩
    have ha:w.heap.size<=w.heap.size:=Nat.le_refl _
    clear e0 e1 hb2
    obtain⟨e0,e1⟩:=Qf HP2.o.cells
    rcases hres with ⟨hok,rfl⟩|⟨hok,rfl⟩
    ·have hi20:i<=20:=by have:=hok.2.2.1;rw[HLR.o]at this;exact this
     have HOK:=Q0 hok
     clear hok
     go_wp2_with fail
     refine(E2 _ (w.alloc (.cells #[.int .i64 0,.slice none 0 0] 197)).heap.size n _ (V4 b i) HP2.o.own (by rw[HLR.o];exact hi20)).mono ?_
     rintro e w5 ⟨v5,rfl,ho5,hb5⟩
     have HX5:=Q0 ho5.rd
     have HP5:=Q0 (HP2.o.bel hb5)
     have HZ5:=Q0 (up hb5 HZ2.o)
     have HR5:=Q0 (HR2.o.bel hb5)
     have HB5:Sc (Below w.heap.size w w5):=⟨Q5 HB2.o hb5⟩
     clear e0 e1 ho5 hb5
     go_wp2_with fail
     refine(Q6g _ _ _ (Yk n (V4 b i)) b HX5.o HR5.o (by rw[Vz];omega) (by rw[HN.o];omega)).mono ?_
     rintro e w6 ⟨rfl,hb6⟩
     have HP6:=Q0 (HP5.o.bel hb6)
     have HZ6:=Q0 (up hb6 HZ5.o)
     have HB6:Sc (Below w.heap.size w w6):=⟨Q5 HB5.o hb6⟩
     obtain⟨p0,p1⟩:=Qf HP6.o.cells
     obtain⟨z0,z1⟩:=Qf HZ6.o
     have y0:=Q2 HZ6.o 0
     have y1:=Q2 HZ6.o 1
     have lz:=Q6 HZ6.o
     have lp:=Q6 HP6.o.cells
     clear hb6
     by_cases heq:Yk n (V4 b i)=b
     ·have HQ:Sc (Uh b):=⟨HIFF.o.2 ⟨HOK.o,heq⟩⟩
      rw[decide_eq_true heq]
      clear heq
      go_wp2
      refine bodyPost_ret (v:=.tuple #[Zn n (.slice A6 k6 c6),.int .i64 0]) (by simp[results,Tryz.results150,go_sem,z0,z1]) rfl ⟨.inr (.inl ⟨HN.o,HQ.o,A6,k6,c6,by rw[HNQ.o],?_⟩),?_⟩
      ·rw[HPP.o hi20]
       exact((HP6.o.own.low (a:=⟨w.heap.size,0,none⟩) (by simp) _).low (a:=⟨w.heap.size,1,none⟩) (by simp) _).mono HW1.o.size
      ·exact(HB6.o.setCell ha _).setCell ha _
     ·have HQ:Sc (¬Uh b):=⟨fun h=>heq (HIFF.o.1 h).2⟩
      rw[decide_eq_false heq]
      clear heq
      go_wp2
      refine bodyPost_ret (v:=.tuple #[Zn 0 (.slice none 0 0),.int .i64 107]) (by simp[results,Tryz.results150,go_sem,z0,z1]) rfl ⟨.inr (.inr ⟨HN.o,HQ.o,rfl⟩),?_⟩
      exact(HB6.o.setCell ha _).setCell ha _
    ·have HQ:Sc (¬Uh b):=⟨fun h=>hok (HIFF.o.1 h).1⟩
     obtain⟨z0,z1⟩:=Qf HZ2.o
     have y0:=Q2 HZ2.o 0
     have y1:=Q2 HZ2.o 1
     have lz:=Q6 HZ2.o
     clear hok
     go_wp2
     refine bodyPost_ret (v:=.tuple #[Zn 0 (.slice none 0 0),.int .i64 107]) (by simp[results,Tryz.results150,go_sem,z0,z1]) rfl ⟨.inr (.inr ⟨HN.o,HQ.o,rfl⟩),?_⟩
     exact(HB2.o.setCell ha _).setCell ha _
 ·have h256':¬(N:Int)=256:=by omega
  have HX:Sc (b.length≠256):=⟨by rw[HN.o];exact h256⟩
  obtain⟨z0,z1⟩:=Qf HZ.o
  have y0:=Q2 HZ.o 0
  have y1:=Q2 HZ.o 1
  have lz:=Q6 HZ.o
  clear h256
  go_enter Tryz.func150,Tryz.ntmps150
  go_wp2
  refine bodyPost_ret (v:=.tuple #[Zn 0 (.slice none 0 0),.int .i64 103]) (by simp[results,Tryz.results150,go_sem,z0,z1]) rfl ⟨.inl ⟨HX.o,rfl⟩,?_⟩
  exact HW1.o
section
structure Abs where
 L:List Q9
 tx:List TX
 most:Int
 lk:List (Int×Int×Int)
 X1:List Int
 pv:Int->Int×List (Int×Int)
 tab:List (Int×Int)
 ck:Int
def Q3p(L:List Q9):Prop:=∀i r,L[i]? =some r->r.kind=1->∀t m,Gl (L.take i) t m->r.txn=m+1
def Y4a(A:Abs):Prop:=∀n,OkP (A.pv n).1 (A.pv n).2/\G6 (A.pv n).2/\(A.pv n).1<=A.L.length
def Db(A:Abs)(n k:Int):Prop:=∃lsn r,Qx A.L 0 lsn=some r/\r.kind=2/\r.page=n/\r.key=k/\has A.tx r.txn=true
def Y6v(A:Abs):Prop:=∀n,∃K:List Int,K.Nodup/\K.length<=20/\(∀y∈(A.pv n).2,y.1∈K)/\∀k,Db A n k->k∈K
structure Live(A:Abs)(st:List TX):Prop where
 run:Gl A.L st A.most
 ck:X0s A.L A.ck st A.most
 last:∀x∈A.tx,Uu A.L x.1 x.2.2.1
 X1:∀(n:Nat) id,A.X1[n]? =some id->id=0\/has A.tx id=true
 own:∀x∈A.tx,∃n:Nat,A.X1[n]? =some x.1
 inj:∀(i j:Nat) id,A.X1[i]? =some id->A.X1[j]? =some id->id=0\/i=j
 held:∀(n:Nat) id,A.X1[n]? =some id->id≠0->∀lsn r,Qx A.L 0 lsn=some r->r.kind=2->r.txn=id->((n:Int),r.key,(2:Int))∈A.lk
 low:∀lsn r,Qx A.L 0 lsn=some r->r.kind=2->r.txn<=A.most
 room:Y6v A
structure Gy(pages:Int)(A:Abs):Prop where
 wf:Dx pages A.L
 txs:∀x∈A.tx,V7 A.L x.1 x.2.2.2
 Je:Qd A.tx
 ids:∀x∈A.tx,1<=x.1/\x.1<=A.most
 most:0<=A.most/\A.most<=60000
 pgs:Y4a A
 tab:∀y∈A.tab,1<=y.1/\y.1<=pages/\1<=y.2/\y.2<=A.L.length
 Q3x:Q3p A.L
 fin:∃t m,Gl A.L t m/\X0s A.L A.ck t m
def Y8q(t:List TX):Prop:=∀x∈t,x.2.1=0
structure Ok(pages:Int)(cap:Nat)(A:Abs):Prop where
 Yc:Gy pages A
 live:cap<=A.L.length\/(Live A A.tx/\Y8q A.tx)
variable{pages:Int}{cap:Nat}{A:Abs}{st st':List TX}{r:Q9}
theorem Q3p.snoc{L:List Q9}(h:Q3p L)(hr:r.kind=1->∀t m,Gl L t m->r.txn=m+1):Q3p (L++[r]):=fun i q hq hk t m ht=>by
 rcases Nat.lt_or_ge i L.length with hi|hi
 ·rw[List.getElem?_append_left hi]at hq
  rw[List.take_append_of_le_length (by omega)]at ht
  exact h i q hq hk t m ht
 ·rw[List.getElem?_append_right hi]at hq
  have hz:i - L.length=0:=by
   rcases Nat.eq_zero_or_pos (i - L.length) with h0|h0
   ·exact h0
   ·rw[List.getElem?_eq_none (by simp;omega)]at hq;cases hq
  rw[hz]at hq
  simp at hq
  subst hq
  obtain rfl:i=L.length:=by omega
  rw[List.take_left' rfl]at ht
  exact hr hk t m ht
theorem Gl.unique{L:List Q9}{t t':List TX}{m m':Int}(h:Gl L t m)(h':Gl L t' m'):t=t'/\m=m':=by
 obtain⟨d,hd⟩:=h
 obtain⟨d',hd'⟩:=h'
 rw[hd]at hd'
 injection hd' with _ h
 injection h with h1 h2
 exact⟨h1,h2⟩
abbrev Abs.grow(A:Abs)(r:Q9):Abs:={A with L:=A.L++[r]}
abbrev Abs.X3r(A:Abs)(t:List TX):Abs:={A with tx:=t}
theorem Zh:(((A.grow r).L.length:Nat):Int)=(A.L.length:Int)+1:=by show(((A.L++[r]).length:Nat):Int)=_;rw[List.length_append];simp
theorem Gy.grow(h:Gy pages A)(hr:Cp pages A.L (A.L.length+1) r)(hb:r.kind=1->∀t m,Gl A.L t m->r.txn=m+1)(hf:∃t m,Gl (A.L++[r]) t m/\X0s (A.L++[r]) A.ck t m):
  Gy pages (A.grow r) where
 wf:=h.wf.snoc hr
 txs:=fun x hx=>(h.txs x hx).snoc _
 Je:=h.Je
 ids:=h.ids
 most:=h.most
 pgs:=fun n=>by
  obtain⟨h1,h2,h3⟩:=h.pgs n
  exact⟨h1,h2,by rw[Zh];show(A.pv n).1<=_;omega⟩
 tab:=fun y hy=>by
  obtain⟨h1,h2,h3,h4⟩:=h.tab y hy
  exact⟨h1,h2,h3,by rw[Zh];omega⟩
 Q3x:=h.Q3x.snoc hb
 fin:=hf
theorem Gy.X3r(h:Gy pages A){t:List TX}(hs:∀x∈t,V7 A.L x.1 x.2.2.2)(hr:Qd t)(hi:∀x∈t,1<=x.1/\x.1<=A.most):Gy pages (A.X3r t):=
 ⟨h.wf,hs,hr,hi,h.most,h.pgs,h.tab,h.Q3x,h.fin⟩
theorem Db.snoc{n k:Int}{A':Abs}(hA:A'.L=A.L++[r])(h:Db A' n k):(∃lsn q,Qx A.L 0 lsn=some q/\q.kind=2/\q.page=n/\q.key=k/\has A'.tx q.txn=true)\/(r.kind=2/\r.page=n/\r.key=k/\has A'.tx r.txn=true):=by
 obtain⟨lsn,q,hq,h1,h2,h3,h4⟩:=h
 rw[hA]at hq
 rcases Ji hq with ⟨_,hq⟩|⟨_,rfl⟩
 ·exact .inl ⟨lsn,q,hq,h1,h2,h3,h4⟩
 ·exact .inr ⟨h1,h2,h3,h4⟩
theorem Live.plain(h:Live A st)(hk:r.kind≠2){t:List TX}(hrun:Gl (A.L++[r]) t A.most)(hck:X0s (A.L++[r]) A.ck t A.most):Live (A.grow r) t where
 run:=hrun
 ck:=hck
 last:=fun x hx=>(h.last x hx).snoc _
 X1:=h.X1
 own:=h.own
 inj:=h.inj
 held:=fun n id h1 h2 lsn q hq h3 h4=>by
  rcases Ji hq with ⟨_,hq⟩|⟨_,rfl⟩
  ·exact h.held n id h1 h2 lsn q hq h3 h4
  ·exact absurd h3 hk
 low:=fun lsn q hq h3=>by
  rcases Ji hq with ⟨_,hq⟩|⟨_,rfl⟩
  ·exact h.low lsn q hq h3
  ·exact absurd h3 hk
 room:=fun n=>by
  obtain⟨K,h1,h2,h3,h4⟩:=h.room n
  refine⟨K,h1,h2,h3,fun k hk'=> ?_⟩
  rcases hk'.snoc rfl with ⟨lsn,q,hq⟩|hq
  ·exact h4 k ⟨lsn,q,hq⟩
  ·exact absurd hq.1 hk
theorem Live.other(h:Live A st)(hk:7<=r.kind):Live (A.grow r) st:=h.plain (by omega) (h.run.snoc (Q8n hk)) (h.ck.snoc (Q8n hk))
theorem Live.X3r(h:Live A st)(hr:Qd A.tx){k:Int}{f:Int×Int×Int->Int×Int×Int}(hl:∀x∈A.tx,x.1=k->Uu A.L k (f x.2).2.1):Live (A.X3r (upd A.tx k f)) st where
 run:=h.run
 ck:=h.ck
 last:=fun y hy=>by
  rcases(U5 hr).1 hy with ⟨hy,_⟩|⟨z,hz,he,rfl⟩
  ·exact h.last y hy
  ·have:=hl z hz he
   rw[<-he]at this
   exact this
 X1:=fun n id hn=>(h.X1 n id hn).imp_right fun hh=>by rw[<-Cy hr k id f]at hh;exact hh
 own:=fun y hy=>by
  rcases(U5 hr).1 hy with ⟨hy,_⟩|⟨z,hz,he,rfl⟩
  ·exact h.own y hy
  ·exact h.own z hz
 inj:=h.inj
 held:=h.held
 low:=h.low
 room:=fun n=>by
  obtain⟨K,g1,g2,g3,g4⟩:=h.room n
  exact⟨K,g1,g2,g3,fun k' ⟨lsn,q,hq,e1,e2,e3,e4⟩=>g4 k' ⟨lsn,q,hq,e1,e2,e3,by rw[Cy hr]at e4;exact e4⟩⟩
theorem Live.idle(h:Live A st){lk':List (Int×Int×Int)}{tab':List (Int×Int)}(hl:∀s k,(s,k,(2:Int))∈A.lk->(s,k,(2:Int))∈lk'):Live {A with lk:=lk',tab:=tab'} st:=
 ⟨h.run,h.ck,h.last,h.X1,h.own,h.inj,fun n id h1 h2 lsn q hq h3 h4=>hl _ _ (h.held n id h1 h2 lsn q hq h3 h4),h.low,h.room⟩
theorem Ok.idle(h:Ok pages cap A){lk':List (Int×Int×Int)}{tab':List (Int×Int)}(hl:∀s k,(s,k,(2:Int))∈A.lk->(s,k,(2:Int))∈lk')(ht:∀y∈tab',y∈A.tab):Ok pages cap {A with lk:=lk',tab:=tab'}:=
 ⟨⟨h.Yc.wf,h.Yc.txs,h.Yc.Je,h.Yc.ids,h.Yc.most,h.Yc.pgs,fun y hy=>h.Yc.tab y (ht y hy),h.Yc.Q3x,h.Yc.fin⟩,h.live.imp_right fun⟨h1,h2⟩=>⟨h1.idle hl,h2⟩⟩
end
section
variable{pages:Int}{cap:Nat}{A:Abs}{st st':List TX}{r:Q9}
abbrev Q9y(id:Int):Q9:=⟨1,id,0,0,0,0,false,false,0,0⟩
abbrev recC(id prev:Int):Q9:=⟨4,id,0,prev,0,0,false,false,0,0⟩
abbrev Q0m(id prev:Int):Q9:=⟨5,id,0,prev,0,0,false,false,0,0⟩
abbrev X2o(id prev:Int):Q9:=⟨6,id,0,prev,0,0,false,false,0,0⟩
theorem Ye{n lo hi:Int}(h1:lo<=n)(h2:n<=hi):inR n lo hi=true:=by unfold inR;rw[decide_eq_true h1,decide_eq_true h2];rfl
theorem Q9m{n lo hi:Int}:inR n lo hi=true↔lo<=n/\n<=hi:=by unfold inR;simp
theorem Jq:Qq r=true↔((((((inR r.kind 1 10=true/\inR r.txn (min (Yv r) 1) (Yv r)=true)/\inR r.page (min (Xi r) 1) (Xi r)=true)/\Z7 r=true)/\Z6 r=true)/\Va r=true)/\Qk r=true):=by unfold Qq;simp only[Bool.and_eq_true]
theorem Q4j{id:Int}(h1:1<=id)(h2:id<=60000):Qq (Q9y id)=true:=
 Jq.2 ⟨⟨⟨⟨⟨⟨rfl,Ye h1 h2⟩,rfl⟩,rfl⟩,rfl⟩,rfl⟩,rfl⟩
theorem Q4i{k id prev:Int}(hk:k=4\/k=5\/k=6)(h1:1<=id)(h2:id<=60000)(h3:0<=prev)(h4:prev<=1073741824):Qq ⟨k,id,0,prev,0,0,false,false,0,0⟩=true:=by
 rcases hk with rfl|rfl|rfl
 all_goals exact Jq.2 ⟨⟨⟨⟨⟨⟨rfl,Ye h1 h2⟩,rfl⟩,Ye h3 h4⟩,rfl⟩,rfl⟩,rfl⟩
theorem Q1u{t:List TX}{m:Int}(h:∀x∈t,x.1<=m)(l:Int):upd (Qt t (m+1,0,0,0)) (m+1) (fun y=>(y.1,l,0))=t++[(m+1,0,l,0)]/\Qt t (m+1,0,0,0)=t++[(m+1,0,0,0)]/\Qt t (m+1,0,l,0)=t++[(m+1,0,l,0)]:=by
 have hb:∀z∈t,z.1<m+1:=fun z hz=>by have:=h z hz;omega
 refine⟨?_,Oj hb,Oj hb⟩
 rw[Oj (x:=(m+1,0,0,0)) hb,Y6d (fun y=>(y.1,l,0)) hb]
theorem Cf{t:List TX}(h:Qd t){x:TX}(hx:∀y∈t,y.1<x.1):Qd (t++[x]):=
 Qd.split.2 ⟨h,List.pairwise_singleton _ _,fun y hy z hz=>by rw[List.mem_singleton.1 hz];exact hx y hy⟩
theorem Gy.Y6y(h:Gy pages A)(hm:A.most<60000):Gy pages {A with tx:=Qt A.tx (A.most+1,0,0,0),most:=A.most+1}:=by
 have hle:∀x∈A.tx,x.1<=A.most:=fun x hx=>(h.ids x hx).2
 have hm0:=h.most
 obtain⟨_,e2,_⟩:=Q1u hle 0
 rw[e2]
 refine⟨h.wf,fun x hx=> ?_,Cf h.Je (fun y hy=>by have:=hle y hy;show y.1<A.most+1;omega),fun x hx=> ?_,⟨by show 0<=A.most+1;omega,by show A.most+1<=60000;omega⟩,h.pgs,h.tab,h.Q3x,h.fin⟩
 ·rcases List.mem_append.1 hx with hx|hx
  ·exact h.txs x hx
  ·rw[List.mem_singleton.1 hx];exact .inl rfl
 ·rcases List.mem_append.1 hx with hx|hx
  ·have:=h.ids x hx;exact⟨this.1,by show x.1<=A.most+1;omega⟩
  ·rw[List.mem_singleton.1 hx];exact⟨by show 1<=A.most+1;omega,Int.le_refl _⟩
def Abs.begun(A:Abs)(n:Nat):Abs:={A with L:=A.L++[Q9y (A.most+1)],tx:=upd (Qt A.tx (A.most+1,0,0,0)) (A.most+1) (fun y=>(y.1,(A.L.length:Int)+1,0)),most:=A.most+1,X1:=A.X1.set n (A.most+1)}
theorem Ok.begun(h:Ok pages cap A)(hc:A.L.length<cap)(hm:A.most<60000){n:Nat}(hn:A.X1[n]? =some 0):Ok pages cap (A.begun n):=by
 obtain⟨hf,hl⟩:=h
 have hlive:Live A A.tx/\Y8q A.tx:=hl.resolve_left (by omega)
 obtain⟨hv,ha⟩:=hlive
 have hm0:=hf.most
 have hle:∀x∈A.tx,x.1<=A.most:=fun x hx=>(hf.ids x hx).2
 obtain⟨e1,_,e3⟩:=Q1u hle ((A.L.length:Int)+1)
 have hno:has A.tx (A.most+1)=false:=Q3g fun x hx he=>by have:=hle x hx;omega
 have hst:Dz ((A.L.length:Int)+1) (Q9y (A.most+1)) A.tx A.most (A.tx++[(A.most+1,0,(A.L.length:Int)+1,0)]) (A.most+1):=by
  have:=X0g (lsn:=(A.L.length:Int)+1) (m:=A.most) (r:=Q9y (A.most+1)) rfl hno
  rw[show(Q9y (A.most+1)).txn=A.most+1 from rfl,e3,Int.max_eq_right (by omega)]at this
  exact this
 have hrun:=hv.run.snoc hst
 have hck:=hv.ck.snoc hst
 unfold Abs.begun
 rw[e1]
 have hhas:∀id,has (A.tx++[((A.most+1,0,(A.L.length:Int)+1,0):TX)]) id=true->id≠A.most+1->has A.tx id=true:=fun id hh hne=>by
  obtain⟨x,hx,he⟩:=Qy.1 hh
  rcases List.mem_append.1 hx with hx|hx
  ·exact Qy.2 ⟨x,hx,he⟩
  ·rw[List.mem_singleton.1 hx]at he;exact absurd he.symm hne
 have hset:∀(j:Nat) id,(A.X1.set n (A.most+1))[j]? =some id->(j=n/\id=A.most+1)\/(j≠n/\A.X1[j]? =some id):=fun j id hj=>by
  rw[List.getElem?_set]at hj
  split at hj
  ·rename_i he
   split at hj
   ·injection hj with hj;exact .inl ⟨he.symm,hj.symm⟩
   ·cases hj
  ·rename_i he;exact .inr ⟨fun h=>he h.symm,hj⟩
 have hold:∀(j:Nat) id,A.X1[j]? =some id->id<=A.most:=fun j id hj=>by
  rcases hv.X1 j id hj with rfl|hh
  ·omega
  ·obtain⟨x,hx,he⟩:=Qy.1 hh
   have:=hle x hx;omega
 refine⟨⟨hf.wf.snoc ⟨Q4j (by omega) (by omega),fun h=>absurd h (by show ¬((1:Int)=2\/(1:Int)=3\/(1:Int)=9);omega),fun h=>absurd h (by show ¬((2:Int)<=1);omega),fun h=>absurd h (by show ¬((1:Int)=3);omega),fun h=>absurd h (by show ¬((1:Int)=2);omega),fun h=>absurd h (by show ¬((1:Int)=2);omega)⟩,fun x hx=> ?_,Cf hf.Je (fun y hy=>by have:=hle y hy;show y.1<A.most+1;omega),fun x hx=> ?_,⟨by show 0<=A.most+1;omega,by show A.most+1<=60000;omega⟩,fun k=> ?_,fun y hy=> ?_,hf.Q3x.snoc (fun _ t m ht=> ?_),⟨_,_,hrun,hck⟩⟩,.inr ⟨⟨hrun,hck,fun x hx=> ?_,fun j id hj=> ?_,fun x hx=> ?_,fun i j id hi hj=> ?_,fun j id hj h0 lsn q hq h3 h4=> ?_,fun lsn q hq h3=> ?_,fun k=> ?_⟩,fun x hx=> ?_⟩⟩
 ·rcases List.mem_append.1 hx with hx|hx
  ·exact(hf.txs x hx).snoc _
  ·rw[List.mem_singleton.1 hx];exact .inl rfl
 ·rcases List.mem_append.1 hx with hx|hx
  ·have:=hf.ids x hx;exact⟨this.1,by show x.1<=A.most+1;omega⟩
  ·rw[List.mem_singleton.1 hx];exact⟨by show 1<=A.most+1;omega,Int.le_refl _⟩
 ·obtain⟨h1,h2,h3⟩:=hf.pgs k
  exact⟨h1,h2,by rw[Zh];show(A.pv k).1<=_;omega⟩
 ·obtain⟨h1,h2,h3,h4⟩:=hf.tab y hy
  exact⟨h1,h2,h3,by rw[Zh];omega⟩
 ·rw[(ht.unique hv.run).2]
 ·rcases List.mem_append.1 hx with hx|hx
  ·exact(hv.last x hx).snoc _
  ·rw[List.mem_singleton.1 hx]
   exact⟨Q9y (A.most+1),Vi,by show(1:Int)<=1;omega,by show(1:Int)<=5;omega,rfl⟩
 ·rcases hset j id hj with ⟨_,rfl⟩|⟨_,hj⟩
  ·exact .inr (Qy.2 ⟨_,List.mem_append_right _ (List.mem_singleton.2 rfl),rfl⟩)
  ·exact(hv.X1 j id hj).imp_right fun hh=>by
    obtain⟨x,hx,he⟩:=Qy.1 hh
    exact Qy.2 ⟨x,List.mem_append_left _ hx,he⟩
 ·have hlen:=(List.getElem?_eq_some_iff.1 hn).1
  rcases List.mem_append.1 hx with hx1|hx
  ·obtain⟨j,hj⟩:=hv.own x hx1
   have hne:j≠n:=fun he=>by
    subst he
    rw[hn]at hj
    injection hj with hj
    have:=hf.ids x hx1
    omega
   exact⟨j,by show(A.X1.set n (A.most+1))[j]? =_;rw[List.getElem?_set_ne (fun he=>hne he.symm)];exact hj⟩
  ·rw[List.mem_singleton.1 hx]
   exact⟨n,by show(A.X1.set n (A.most+1))[n]? =_;rw[List.getElem?_set_self hlen]⟩
 ·rcases hset i id hi with ⟨rfl,rfl⟩|⟨hi1,hi2⟩
  ·rcases hset j _ hj with ⟨rfl,_⟩|⟨_,hj2⟩
   ·exact .inr rfl
   ·have:=hold j _ hj2;omega
  ·rcases hset j id hj with ⟨rfl,rfl⟩|⟨_,hj2⟩
   ·have:=hold i _ hi2;omega
   ·exact hv.inj i j id hi2 hj2
 ·rcases Ji hq with ⟨_,hq⟩|⟨_,rfl⟩
  ·rcases hset j id hj with ⟨_,rfl⟩|⟨_,hj⟩
   ·have:=hv.low lsn q hq h3;omega
   ·exact hv.held j id hj h0 lsn q hq h3 h4
  ·exact absurd h3 (by show ¬((1:Int)=2);omega)
 ·rcases Ji hq with ⟨_,hq⟩|⟨_,rfl⟩
  ·have:=hv.low lsn q hq h3;show q.txn<=A.most+1;omega
  ·exact absurd h3 (by show ¬((1:Int)=2);omega)
 ·obtain⟨K,h1,h2,h3,h4⟩:=hv.room k
  refine⟨K,h1,h2,h3,fun y hy=> ?_⟩
  rcases hy.snoc rfl with ⟨lsn,q,hq,g1,g2,g3,g4⟩|hq
  ·exact h4 y ⟨lsn,q,hq,g1,g2,g3,hhas _ g4 (by have:=hv.low lsn q hq g1;omega)⟩
  ·exact absurd hq.1 (by show ¬((1:Int)=2);omega)
 ·rcases List.mem_append.1 hx with hx|hx
  ·exact ha x hx
  ·rw[List.mem_singleton.1 hx]
end
section
variable{pages:Int}{cap:Nat}{A:Abs}{st st':List TX}{r:Q9}{id s:Int}
def Q8q(id s:Int)(t:List TX):Prop:=∀x∈t,x.2.1=if x.1=id then s else 0
structure OkS(pages:Int)(cap:Nat)(id s:Int)(A:Abs):Prop where
 Yc:Gy pages A
 live:cap<=A.L.length\/(Live A A.tx/\Q8q id s A.tx)
theorem Ok.to(h:Ok pages cap A)(id:Int):OkS pages cap id 0 A:=⟨h.Yc,h.live.imp_right fun⟨h1,h2⟩=>⟨h1,fun x hx=>by rw[h2 x hx];split<;>rfl⟩⟩
theorem OkS.from_(h:OkS pages cap id 0 A):Ok pages cap A:=⟨h.Yc,h.live.imp_right fun⟨h1,h2⟩=>⟨h1,fun x hx=>by rw[h2 x hx];split<;>rfl⟩⟩
theorem Di{β:Type}{l:List (Int×β)}(hr:Qd l){k:Int}{f g:β->β}(h:∀x∈l,x.1=k->f x.2=g x.2):upd l k f=upd l k g:=by
 cases hh:has l k with
 |false=>rw[E8 f hh,E8 g hh]
 |true=>
  obtain⟨x,hx,hk⟩:=(Zq hr k).1 hh
  rw[Za f hh hx,Za g hh hx,h x (List.mem_of_getElem? hx) hk]
def Vg(A:Abs)(r:Q9):Int:=if r.kind=2 then(A.L.length:Int)+1 else r.next
def Abs.changed(A:Abs)(r:Q9)(id:Int)(l':List (Int×Int)):Abs:=
 {A with L:=A.L++[r],tx:=upd A.tx id (fun y=>(y.1,(A.L.length:Int)+1,Vg A r)),pv:=fun m=>if m=r.page then((A.L.length:Int)+1,l') else A.pv m,tab:=add A.tab (r.page,(A.L.length:Int)+1)}
theorem Y5n(hr:Qd A.tx){x:TX}(hx:x∈A.tx)(hk:r.kind=2\/r.kind=3):upd A.tx x.1 (fun _=>(Yt ((A.L.length:Int)+1) r x).2)=upd A.tx x.1 (fun y=>(y.1,(A.L.length:Int)+1,Vg A r)):=by
 refine Di hr fun y hy he=> ?_
 have:=hr.Gb hy hx he
 subst this
 unfold Yt Vg
 rcases hk with hk|hk<;>simp[hk]
theorem OkS.change(h:OkS pages cap id s A)(hc:A.L.length<cap){x:TX}(hx:x∈A.tx)(hxi:x.1=id)(hk:(r.kind=2/\s=0)\/(r.kind=3/\s≠1))(h1:r.txn=id)(h2:r.prev=x.2.2.1)(hw:Cp pages A.L (A.L.length+1) r)(hp:1<=r.page/\r.page<=pages)
  (hheld:r.kind=2->∀n:Nat,A.X1[n]? =some id->((n:Int),r.key,(2:Int))∈A.lk) {l':List (Int×Int)} (hok:OkP ((A.L.length:Int)+1) l') (hv:G6 l')
  (hroom:∃K:List Int,K.Nodup/\K.length<=20/\(∀y∈l',y.1∈K)/\(∀k,Db A r.page k->k∈K)/\(r.kind=2->r.key∈K)):OkS pages cap id s (A.changed r id l'):=by
 obtain⟨hf,hl⟩:=h
 obtain⟨hv1,ha⟩:Live A A.tx/\Q8q id s A.tx:=hl.resolve_left (by omega)
 have hr:=hf.Je
 have hm:=(hf.ids x hx).2
 have hstate:x.2.1=s:=by have:=ha x hx;rw[if_pos hxi]at this;exact this
 have hgood:if r.kind=3 then x.2.1≠1/\r.next<(A.L.length:Int)+1 else x.2.1=0:=by
  rcases hk with ⟨hk,hs⟩|⟨hk,hs⟩
  ·rw[if_neg (by omega),hstate,hs]
  ·rw[if_pos hk,hstate];exact⟨hs,(hw.next hk).1⟩
 have hst:=Ez (lsn:=(A.L.length:Int)+1) hr hx hm (by rw[h1,hxi]) h2 (by omega) hgood
 rw[Y5n hr hx (by omega),hxi]at hst
 have hrun:=hv1.run.snoc hst
 have hck:=hv1.ck.snoc hst
 have hmem:= @U5 _ A.tx hr id (fun y=>(y.1,(A.L.length:Int)+1,Vg A r))
 have hsn:V7 (A.L++[r]) id (Vg A r):=by
  unfold Vg
  rcases hk with ⟨hk,_⟩|⟨hk,_⟩
  ·rw[if_pos hk];exact .inr ⟨r,Vi,hk,h1⟩
  ·rw[if_neg (by omega)]
   have:=(hw.next hk).2.snoc [r]
   rw[h1]at this
   exact this
 have hon:Uu (A.L++[r]) id ((A.L.length:Int)+1):=⟨r,Vi,by omega,by omega,h1⟩
 unfold Abs.changed
 refine⟨⟨hf.wf.snoc hw,fun y hy=> ?_,Jw hr id (fun y=>(y.1,(A.L.length:Int)+1,Vg A r)),fun y hy=> ?_,hf.most,fun k=> ?_,fun y hy=> ?_,hf.Q3x.snoc (fun hk1=>by omega),⟨_,_,hrun,hck⟩⟩,.inr ⟨⟨hrun,hck,fun y hy=> ?_,fun j i hj=> ?_,fun y hy=> ?_,hv1.inj,fun j i hj h0 lsn q hq h3 h4=> ?_,fun lsn q hq h3=> ?_,fun k=> ?_⟩,fun y hy=> ?_⟩⟩
 ·rcases hmem.1 hy with ⟨hy,_⟩|⟨z,hz,he,rfl⟩
  ·exact(hf.txs y hy).snoc _
  ·show V7 (A.L++[r]) z.1 (Vg A r)
   rw[he];exact hsn
 ·rcases hmem.1 hy with ⟨hy,_⟩|⟨z,hz,he,rfl⟩
  ·exact hf.ids y hy
  ·exact hf.ids z hz
 ·show OkP (if k=r.page then((A.L.length:Int)+1,l') else A.pv k).1 (if k=r.page then((A.L.length:Int)+1,l') else A.pv k).2/\G6 (if k=r.page then((A.L.length:Int)+1,l') else A.pv k).2/\(if k=r.page then((A.L.length:Int)+1,l') else A.pv k).1<=_
  rw[Zh]
  split
  ·exact⟨hok,hv,Int.le_refl _⟩
  ·obtain⟨g1,g2,g3⟩:=hf.pgs k
   exact⟨g1,g2,by omega⟩
 ·rcases X7p (show y∈add A.tab (r.page,(A.L.length:Int)+1) from hy) with rfl|hy
  ·exact⟨hp.1,hp.2,by show(1:Int)<=(A.L.length:Int)+1;omega,by rw[Zh];exact Int.le_refl _⟩
  ·obtain⟨g1,g2,g3,g4⟩:=hf.tab y hy
   exact⟨g1,g2,g3,by rw[Zh];omega⟩
 ·rcases hmem.1 hy with ⟨hy,_⟩|⟨z,hz,he,rfl⟩
  ·exact(hv1.last y hy).snoc _
  ·show Uu (A.L++[r]) z.1 ((A.L.length:Int)+1)
   rw[he];exact hon
 ·exact(hv1.X1 j i hj).imp_right fun hh=>by rw[<-Cy hr id i (fun y=>(y.1,(A.L.length:Int)+1,Vg A r))]at hh;exact hh
 ·rcases hmem.1 hy with ⟨hy,_⟩|⟨z,hz,he,rfl⟩
  ·exact hv1.own y hy
  ·exact hv1.own z hz
 ·rcases Ji hq with ⟨_,hq⟩|⟨_,rfl⟩
  ·exact hv1.held j i hj h0 lsn q hq h3 h4
  ·have he:i=id:=by rw[<-h4,h1]
   subst he
   exact hheld h3 j hj
 ·rcases Ji hq with ⟨_,hq⟩|⟨_,rfl⟩
  ·exact hv1.low lsn q hq h3
  ·show q.txn<=A.most;rw[h1,<-hxi];exact hm
 ·by_cases hkp:k=r.page
  ·subst hkp
   obtain⟨K,g1,g2,g3,g4,g5⟩:=hroom
   refine⟨K,g1,g2,fun y hy=> ?_,fun j hj=> ?_⟩
   ·have:y∈(if r.page=r.page then((A.L.length:Int)+1,l') else A.pv r.page).2:=hy
    rw[if_pos rfl]at this
    exact g3 y this
   ·rcases hj.snoc (A:=A) rfl with ⟨lsn,q,hq,e1,e2,e3,e4⟩|⟨e1,e2,e3,e4⟩
    ·exact g4 j ⟨lsn,q,hq,e1,e2,e3,by have e5:has (upd A.tx id (fun y=>(y.1,(A.L.length:Int)+1,Vg A r))) q.txn=true:=e4;rw[Cy hr]at e5;exact e5⟩
    ·rw[<-e3];exact g5 e1
  ·obtain⟨K,g1,g2,g3,g4⟩:=hv1.room k
   refine⟨K,g1,g2,fun y hy=> ?_,fun j hj=> ?_⟩
   ·have:y∈(if k=r.page then((A.L.length:Int)+1,l') else A.pv k).2:=hy
    rw[if_neg hkp]at this
    exact g3 y this
   ·rcases hj.snoc (A:=A) rfl with ⟨lsn,q,hq,e1,e2,e3,e4⟩|⟨e1,e2,e3,e4⟩
    ·exact g4 j ⟨lsn,q,hq,e1,e2,e3,by have e5:has (upd A.tx id (fun y=>(y.1,(A.L.length:Int)+1,Vg A r))) q.txn=true:=e4;rw[Cy hr]at e5;exact e5⟩
    ·exact absurd e2.symm hkp
 ·rcases hmem.1 hy with ⟨hy,_⟩|⟨z,hz,he,rfl⟩
  ·exact ha y hy
  ·exact ha z hz
def Abs.ended(A:Abs)(n:Nat)(id last:Int):Abs:={A with L:=A.L++[X2o id last],tx:=X4 A.tx id,lk:=Of n A.lk,X1:=A.X1.set n 0}
theorem Gy.ended(h:Gy pages A)(hl:Live A st){n:Nat}(hrs:Qd st){x:TX}(hx:x∈st)(hn:A.X1[n]? =some x.1)(hd:X4 st x.1=X4 A.tx x.1)(ho:Uu A.L x.1 x.2.2.1)(hid:1<=x.1/\x.1<=60000)(hlen:A.L.length<=1000)(ha:∀y∈A.tx,y.1≠x.1->y.2.1=0):
  Ok pages cap (A.ended n x.1 x.2.2.1):=by
 have hr:=h.Je
 have hst:=X6m (lsn:=(A.L.length:Int)+1) (m:=A.most) (r:=X2o x.1 x.2.2.1) hrs hx rfl rfl rfl
 have hrun:=hl.run.snoc hst
 have hck:=hl.ck.snoc hst
 rw[hd]at hrun hck
 have hog:=ho.range
 have hmem:= @Zi _ A.tx hr x.1
 have hset:∀(j:Nat) i,(A.X1.set n 0)[j]? =some i->i≠0->j≠n/\A.X1[j]? =some i:=fun j i hj hi=>by
  rw[List.getElem?_set]at hj
  split at hj
  ·split at hj
   ·injection hj with hj;exact absurd hj.symm hi
   ·cases hj
  ·rename_i he;exact⟨fun h=>he h.symm,hj⟩
 have hgd:Cp pages A.L (A.L.length+1) (X2o x.1 x.2.2.1):=⟨Q4i (.inr (.inr rfl)) hid.1 hid.2 (by omega) (by omega),fun h=>absurd h (by show ¬((6:Int)=2\/(6:Int)=3\/(6:Int)=9);omega),fun _ h=>absurd h (by show ¬((6:Int)<=5);omega),fun h=>absurd h (by show ¬((6:Int)=3);omega),fun h=>absurd h (by show ¬((6:Int)=2);omega),fun h=>absurd h (by show ¬((6:Int)=2);omega)⟩
 unfold Abs.ended
 refine⟨⟨h.wf.snoc hgd,fun y hy=>(h.txs y (hmem.1 hy).1).snoc _,drop'_rising hr _,fun y hy=>h.ids y (hmem.1 hy).1,h.most,fun k=> ?_,fun y hy=> ?_,h.Q3x.snoc (fun hk=>absurd hk (by show ¬((6:Int)=1);omega)),⟨_,_,hrun,hck⟩⟩,.inr ⟨⟨hrun,hck,fun y hy=>(hl.last y (hmem.1 hy).1).snoc _,fun j i hj=> ?_,fun y hy=> ?_,fun i j q hi hj=> ?_,fun j i hj h00 lsn q hq h3 h4=> ?_,fun lsn q hq h3=> ?_,fun k=> ?_⟩,fun y hy=>ha y (hmem.1 hy).1 (hmem.1 hy).2⟩⟩
 ·obtain⟨g1,g2,g3⟩:=h.pgs k
  exact⟨g1,g2,by rw[Zh];show(A.pv k).1<=_;omega⟩
 ·obtain⟨g1,g2,g3,g4⟩:=h.tab y hy
  exact⟨g1,g2,g3,by rw[Zh];omega⟩
 ·by_cases hi:i=0
  ·exact .inl hi
  ·obtain⟨hjn,hj'⟩:=hset j i hj hi
   have hh:=(hl.X1 j i hj').resolve_left hi
   obtain⟨y,hy,he⟩:=Qy.1 hh
   refine .inr (Qy.2 ⟨y,hmem.2 ⟨hy,fun hyx=> ?_⟩,he⟩)
   rcases hl.inj j n i hj' (by rw[hn,<-hyx,he]) with h00|h00
   ·exact hi h00
   ·exact hjn h00
 ·obtain⟨hy1,hy2⟩:=hmem.1 hy
  obtain⟨j,hj⟩:=hl.own y hy1
  have hne:j≠n:=fun he=>by
   subst he
   rw[hn]at hj
   injection hj with hj
   exact hy2 hj.symm
  exact⟨j,by show(A.X1.set n 0)[j]? =_;rw[List.getElem?_set_ne (fun he=>hne he.symm)];exact hj⟩
 ·by_cases hq:q=0
  ·exact .inl hq
  ·exact hl.inj i j q (hset i q hi hq).2 (hset j q hj hq).2
 ·obtain⟨hjn,hj'⟩:=hset j i hj h00
  rcases Ji hq with ⟨_,hq⟩|⟨_,rfl⟩
  ·have hh:=hl.held j i hj' h00 lsn q hq h3 h4
   show _∈Of n A.lk
   unfold Of
   exact List.mem_filter.2 ⟨hh,by simp;omega⟩
  ·exact absurd h3 (by show ¬((6:Int)=2);omega)
 ·rcases Ji hq with ⟨_,hq⟩|⟨_,rfl⟩
  ·exact hl.low lsn q hq h3
  ·exact absurd h3 (by show ¬((6:Int)=2);omega)
 ·obtain⟨K,g1,g2,g3,g4⟩:=hl.room k
  refine⟨K,g1,g2,g3,fun j hj=> ?_⟩
  rcases hj.snoc (A:=A) rfl with ⟨lsn,q,hq,e1,e2,e3,e4⟩|hq
  ·exact g4 j ⟨lsn,q,hq,e1,e2,e3,by
    obtain⟨y,hy,he⟩:=Qy.1 (show has (X4 A.tx x.1) q.txn=true from e4)
    exact Qy.2 ⟨y,(hmem.1 hy).1,he⟩⟩
  ·exact absurd hq.1 (by show ¬((6:Int)=2);omega)
end
section
variable{pages:Int}{cap:Nat}{A:Abs}{r:Q9}{id s:Int}
def Yj(l:List (Int×Int))(r:Q9):List (Int×Int):=if r.has=true then Qt l (r.key,r.new) else X4 l r.key
theorem Q8d{l:List (Int×Int)}(hr:Qd l)(hk:∀x∈l,0<=x.1/\x.1<1048576):Vt l l.length:=fun i x hi hx=>by
 obtain⟨h1,h2⟩:=hk x (List.mem_of_getElem? hx)
 exact⟨h1,h2,fun y h0 hy=>hr.lt (by omega) hy hx⟩
theorem OkP.keys{n:Int}{l:List (Int×Int)}(h:OkP n l):Qd l/\∀x∈l,0<=x.1/\x.1<1048576:=
 ⟨h.2.2.2.2.rising,fun x hx=>by
  obtain⟨i,hi⟩:=List.mem_iff_getElem?.1 hx
  have:=h.2.2.2.2 i x (List.getElem?_eq_some_iff.1 hi).1 hi
  exact⟨this.1,this.2.1⟩⟩
theorem Q6y{l:List (Int×Int)}{x:Int×Int}(h:has l x.1=true\/l.length<20)(hl:l.length<=20):(Qt l x).length<=20:=by
 cases hh:has l x.1 with
 |true=>rw[Vm hh,List.length_set];exact hl
 |false=>
  rw[Ex hh,Cb]
  rcases h with h|h
  ·rw[hh]at h;cases h
  ·omega
theorem OkP.change{n lsn:Int}{l:List (Int×Int)}(h:OkP n l)(hl0:1<=lsn)(hl1:lsn<=1073741824)(hk:0<=r.key/\r.key<=1048575)(hfit:r.has=true->(has l r.key=true\/l.length<20)):OkP lsn (Yj l r):=by
 obtain⟨hr,hkeys⟩:=h.keys
 unfold Yj
 cases hh:r.has with
 |true=>
  rw[if_pos rfl]
  refine⟨by omega,hl1,Q6y (hfit hh) h.2.2.1,fun _=>by omega,Q8d (G1 hr _) (fun x hx=> ?_)⟩
  rcases(Vb hr).1 hx with rfl|⟨hx,_⟩
  ·exact⟨hk.1,by show r.key<1048576;omega⟩
  ·exact hkeys x hx
 |false=>
  rw[if_neg (by simp)]
  exact⟨by omega,hl1,Nat.le_trans (drop'_length l r.key) h.2.2.1,fun _=>by omega,Q8d (drop'_rising hr _) (fun x hx=>hkeys x (Df hx))⟩
theorem G6.change{l:List (Int×Int)}(hr:Qd l)(h:G6 l)(hn: -9223372036854775808<=r.new/\r.new<=9223372036854775807):G6 (Yj l r):=fun x hx=>by
 unfold Yj at hx
 split at hx
 ·rcases(Vb hr).1 hx with rfl|⟨hx,_⟩
  ·exact hn
  ·exact h x hx
 ·exact h x (Df hx)
theorem Q1g{l:List (Int×Int)}(hr:Qd l){x:Int×Int}(hx:x∈Yj l r):x.1=r.key\/x∈l:=by
 unfold Yj at hx
 split at hx
 ·rcases(Vb hr).1 hx with rfl|⟨hx,_⟩
  ·exact .inl rfl
  ·exact .inr hx
 ·exact .inr (Df hx)
theorem X2x{l:List (Int×Int)}{K:List Int}(hr:Qd l)(hs:∀y∈l,y.1∈K){k:Int}(hk:k∈K)(hl:K.length<=20):has l k=true\/l.length<20:=by
 cases hh:has l k with
 |true=>exact .inl rfl
 |false=>
  right
  have hnd:(k::l.map (·.1)).Nodup:=by
   refine List.nodup_cons.2 ⟨fun hm=> ?_,?_⟩
   ·obtain⟨x,hx,he⟩:=List.mem_map.1 hm
    rw[Qy.2 ⟨x,hx,he⟩]at hh
    cases hh
   ·exact List.pairwise_map.2 (List.Pairwise.imp (fun {a b} h=>by omega) hr)
  have hsub:∀x∈k::l.map (·.1),x∈K:=fun x hx=>by
   rcases List.mem_cons.1 hx with rfl|hx
   ·exact hk
   ·obtain⟨y,hy,rfl⟩:=List.mem_map.1 hx
    exact hs y hy
  have:=nodup_len hnd hsub
  rw[List.length_cons,List.length_map]at this
  omega
where
 nodup_len:∀{l K:List Int},l.Nodup->(∀x∈l,x∈K)->l.length<=K.length:=by
  intro l
  induction l with
  |nil=>intro K _ _;exact Nat.zero_le _
  |cons x l ih=>
   intro K hn hs
   obtain⟨h1,h2⟩:=List.nodup_cons.1 hn
   have hx:=hs x List.mem_cons_self
   have h3:=ih (K:=K.erase x) h2 (fun y hy=>(List.mem_erase_of_ne (fun he=>h1 (by rw[<-he];exact hy))).2 (hs y (List.mem_cons_of_mem _ hy)))
   have h4:=List.length_erase_of_mem hx
   have h5:0<K.length:=List.length_pos_of_mem hx
   rw[List.length_cons]
   omega
theorem Q8m(h:Qq r=true)(hk:r.kind=2):(1<=r.txn/\r.txn<=60000)/\1<=r.page/\(0<=r.key/\r.key<=1048575)/\(r.had=false->r.old=0):=by
 obtain⟨⟨⟨⟨⟨⟨h1,h2⟩,h3⟩,h4⟩,h5⟩,h6⟩,h7⟩:=Jq.1 h
 have e2:Yv r=60000:=by unfold Yv;rw[if_pos (.inl (by omega))]
 have e3:Xi r=32:=by unfold Xi;rw[if_pos (.inl hk)]
 rw[e2]at h2
 rw[e3]at h3
 unfold Va at h6
 rw[if_pos (.inl hk)]at h6
 refine⟨Q9m.1 h2,(Q9m.1 h3).1,Q9m.1 h6,fun hh=> ?_⟩
 unfold Qk at h7
 split at h7
 ·cases h7
 ·rename_i hn
  by_cases h0:r.old=0
  ·exact h0
  ·exact absurd (.inr ⟨hh,h0⟩) hn
theorem OkS.Y7o(h:OkS pages cap id s A)(hs:s≠1)(hpg:pages<=32)(hc:A.L.length<cap)(hcap:cap<=400){q m:Int}(hq:Qx A.L 0 q=some r)(hk:r.kind=2)(ht:r.txn=id)(hx:has A.tx id=true)(hm:V7 A.L id m)(hl:m<q):
  Qq (G2 r q (got A.tx id).2.2.1 m)=true/\(A.pv r.page).1<(A.L.length:Int)+1/\(r.had=true->(has (A.pv r.page).2 r.key=true\/(A.pv r.page).2.length<20))/\OkP ((A.L.length:Int)+1) (Yj (A.pv r.page).2 (G2 r q (got A.tx id).2.2.1 m))/\G6 (Yj (A.pv r.page).2 (G2 r q (got A.tx id).2.2.1 m))/\
   OkS pages cap id s (A.changed (G2 r q (got A.tx id).2.2.1 m) id (Yj (A.pv r.page).2 (G2 r q (got A.tx id).2.2.1 m))):=by
 obtain⟨hv1,ha⟩:Live A A.tx/\Q8q id s A.tx:=h.live.resolve_left (by omega)
 obtain⟨x,hxm,hxi⟩:=Qy.1 hx
 have hg:got A.tx id=x:=by rw[<-hxi];exact(Z3 h.Yc.Je hxm).2.2
 rw[hg]
 have hwr:=h.Yc.wf q r hq
 obtain⟨g1,g2,g3,g4⟩:=Q8m hwr.Jo hk
 have hqr:=Yo hq
 have hol:=(hv1.last x hxm)
 have hor:=hol.range
 have hmr:=hm.range
 have hpage:=hwr.page (.inl hk)
 obtain⟨p1,p2,p3⟩:=h.Yc.pgs r.page
 have hidr:=h.Yc.ids x hxm
 have hmost:=h.Yc.most
 obtain⟨K,k1,k2,k3,k4⟩:=hv1.room r.page
 have hrk:r.key∈K:=k4 r.key ⟨q,r,hq,hk,rfl,rfl,by rw[ht];exact hx⟩
 have hkr:=p1.keys
 have hfit:=X2x hkr.1 k3 hrk k2
 have hgood:Qq (G2 r q x.2.2.1 m)=true:=by
  refine Jq.2 ⟨⟨⟨⟨⟨⟨rfl,Ye g1.1 g1.2⟩,Ye g2 (by show r.page<=32;omega)⟩,Ye (by show(0:Int)<=x.2.2.1;omega) (by show x.2.2.1<=1073741824;omega)⟩,Ye (by show(0:Int)<=m;omega) (by show m<=1073741824;omega)⟩,Ye g3.1 g3.2⟩,?_⟩
  unfold Qk
  rw[if_neg (fun hh=> ?_),if_neg (by show ¬((3:Int)=2);omega),if_pos rfl]
  ·show(true&&(decide (1<=q)&&decide (q<=1073741824)))=true
   rw[decide_eq_true hqr.1,decide_eq_true (by omega)]
   rfl
  ·rcases hh with ⟨h1,h2⟩|⟨h1,_⟩
   ·exact h2 (g4 h1)
   ·cases h1
 have hokp:=p1.change (r:=G2 r q x.2.2.1 m) (lsn:=(A.L.length:Int)+1) (by omega) (by omega) g3 (fun _=>hfit)
 have hvals:=G6.change (r:=G2 r q x.2.2.1 m) hkr.1 p2 (hwr.Y6g hk)
 refine⟨hgood,by omega,fun _=>hfit,hokp,hvals,?_⟩
 refine h.change (r:=G2 r q x.2.2.1 m) hc hxm hxi (.inr ⟨rfl,hs⟩) ht rfl ⟨hgood,fun _=>hpage,fun _ _=>⟨by show x.2.2.1<_;omega,by show Uu A.L r.txn x.2.2.1;rw[ht,<-hxi];exact hol⟩,fun _=>⟨by show m<_;omega,by show V7 A.L r.txn m;rw[ht];exact hm⟩,fun hh=>absurd hh (by show ¬((3:Int)=2);omega),fun hh=>absurd hh (by show ¬((3:Int)=2);omega)⟩ ⟨g2,hpage⟩ (fun hh=>absurd hh (by show ¬((3:Int)=2);omega)) hokp hvals ⟨K,k1,k2,fun y hy=> ?_,k4,fun hh=>absurd hh (by show ¬((3:Int)=2);omega)⟩
 rcases Q1g hkr.1 hy with he|hy
 ·rw[he];exact hrk
 ·exact k3 y hy
end
section
variable{pages:Int}{cap:Nat}{A:Abs}{r:Q9}{id s:Int}
theorem Y1p{β:Type}{l:List (Int×β)}(hr:Qd l)(k:Int)(f:β->β):X4 (upd l k f) k=X4 l k:=
 Q5g (drop'_rising (Jw hr k f) k) (drop'_rising hr k) fun y=>by
  rw[Zi (Jw hr k f),Zi hr,U5 hr]
  constructor
  ·rintro⟨⟨h1,h2⟩|⟨x,hx,hk,rfl⟩,h3⟩
   ·exact⟨h1,h2⟩
   ·exact absurd hk h3
  ·rintro⟨h1,h2⟩
   exact⟨.inl ⟨h1,h2⟩,h2⟩
theorem Ok.X7i(h:Ok pages cap A)(hc:A.L.length<cap){x:TX}(hx:x∈A.tx)(hg:Qq (recC x.1 x.2.2.1)=true):
  Gy pages (A.grow (recC x.1 x.2.2.1))/\Live (A.grow (recC x.1 x.2.2.1)) (upd A.tx x.1 (fun y=>(1,(A.L.length:Int)+1,y.2.2))):=by
 obtain⟨hf,hl⟩:=h
 obtain⟨hv,ha⟩:Live A A.tx/\Y8q A.tx:=hl.resolve_left (by omega)
 have hr:=hf.Je
 have hst:=Ez (lsn:=(A.L.length:Int)+1) (r:=recC x.1 x.2.2.1) hr hx (hf.ids x hx).2 rfl rfl (by show(4:Int)≠1/\(4:Int)≠6/\(4:Int)<7;omega) (by rw[if_neg (by show ¬((4:Int)=3);omega)];exact ha x hx)
 have he:upd A.tx x.1 (fun _=>(Yt ((A.L.length:Int)+1) (recC x.1 x.2.2.1) x).2)=upd A.tx x.1 (fun y=>(1,(A.L.length:Int)+1,y.2.2)):=Di hr fun y hy hyx=>by
  have:=hr.Gb hy hx hyx
  subst this
  rfl
 rw[he]at hst
 have hrun:=hv.run.snoc hst
 have hck:=hv.ck.snoc hst
 have ho:=hv.last x hx
 have hor:=ho.range
 exact⟨hf.grow ⟨hg,fun h=>absurd h (by show ¬((4:Int)=2\/(4:Int)=3\/(4:Int)=9);omega),fun _ _=>⟨by show x.2.2.1<_;omega,ho⟩,fun h=>absurd h (by show ¬((4:Int)=3);omega),fun h=>absurd h (by show ¬((4:Int)=2);omega),fun h=>absurd h (by show ¬((4:Int)=2);omega)⟩ (fun h=>absurd h (by show ¬((4:Int)=1);omega)) ⟨_,_,hrun,hck⟩,hv.plain (by show(4:Int)≠2;omega) hrun hck⟩
theorem Ok.Y4i(h:Ok pages cap A)(hc:A.L.length<cap)(hcap:cap<=400){x:TX}(hx:x∈A.tx)(hg:Qq (recC x.1 x.2.2.1)=true){n:Nat}(hn:A.X1[n]? =some x.1):
  Ok pages cap ((A.grow (recC x.1 x.2.2.1)).ended n x.1 ((A.L.length:Int)+1)):=by
 obtain⟨h1,h2⟩:=h.X7i hc hx hg
 have hr:=h.Yc.Je
 have ha:Y8q A.tx:=(h.live.resolve_left (by omega)).2
 have hid:=h.Yc.ids x hx
 have hm:=h.Yc.most
 have:=h1.ended (cap:=cap) h2 (n:=n) (Jw hr _ _) (x:=(x.1,1,(A.L.length:Int)+1,x.2.2.2)) ((U5 hr).2 (.inr ⟨x,hx,rfl,rfl⟩)) hn (Y1p hr x.1 _) ⟨recC x.1 x.2.2.1,Vi,by show(1:Int)<=4;omega,by show(4:Int)<=5;omega,rfl⟩ ⟨hid.1,by show x.1<=60000;omega⟩ (by show(A.L++[recC x.1 x.2.2.1]).length<=1000;rw[List.length_append,List.length_singleton];omega) (fun y hy _=>ha y hy)
 exact this
def Abs.X0x(A:Abs)(x:TX):Abs:={A with L:=A.L++[Q0m x.1 x.2.2.1],tx:=upd A.tx x.1 (fun y=>(2,(A.L.length:Int)+1,y.2.2))}
theorem Ok.Y6x(h:Ok pages cap A)(hc:A.L.length<cap){x:TX}(hx:x∈A.tx)(hg:Qq (Q0m x.1 x.2.2.1)=true):OkS pages cap x.1 2 (A.X0x x):=by
 obtain⟨hf,hl⟩:=h
 obtain⟨hv,ha⟩:Live A A.tx/\Y8q A.tx:=hl.resolve_left (by omega)
 have hr:=hf.Je
 have hst:=Ez (lsn:=(A.L.length:Int)+1) (r:=Q0m x.1 x.2.2.1) hr hx (hf.ids x hx).2 rfl rfl (by show(5:Int)≠1/\(5:Int)≠6/\(5:Int)<7;omega) (by rw[if_neg (by show ¬((5:Int)=3);omega)];exact ha x hx)
 have he:upd A.tx x.1 (fun _=>(Yt ((A.L.length:Int)+1) (Q0m x.1 x.2.2.1) x).2)=upd A.tx x.1 (fun y=>(2,(A.L.length:Int)+1,y.2.2)):=Di hr fun y hy hyx=>by
  have:=hr.Gb hy hx hyx
  subst this
  rfl
 rw[he]at hst
 have hrun:=hv.run.snoc hst
 have hck:=hv.ck.snoc hst
 have ho:=hv.last x hx
 have hor:=ho.range
 have hg1:=hf.grow (r:=Q0m x.1 x.2.2.1) ⟨hg,fun h=>absurd h (by show ¬((5:Int)=2\/(5:Int)=3\/(5:Int)=9);omega),fun _ _=>⟨by show x.2.2.1<_;omega,ho⟩,fun h=>absurd h (by show ¬((5:Int)=3);omega),fun h=>absurd h (by show ¬((5:Int)=2);omega),fun h=>absurd h (by show ¬((5:Int)=2);omega)⟩ (fun h=>absurd h (by show ¬((5:Int)=1);omega)) ⟨_,_,hrun,hck⟩
 have hl1:=(hv.plain (r:=Q0m x.1 x.2.2.1) (by show(5:Int)≠2;omega) hrun hck).X3r hr (k:=x.1) (f:=fun y=>(2,(A.L.length:Int)+1,y.2.2)) (fun y hy hyx=>⟨Q0m x.1 x.2.2.1,Vi,by show(1:Int)<=5;omega,by show(5:Int)<=5;omega,rfl⟩)
 have hmem:=fun y=> @U5 _ A.tx hr x.1 (fun y=>(2,(A.L.length:Int)+1,y.2.2)) y
 refine⟨hg1.X3r (fun y hy=> ?_) (Jw hr _ _) (fun y hy=> ?_),.inr ⟨hl1,fun y hy=> ?_⟩⟩
 ·rcases(hmem y).1 hy with ⟨hy,_⟩|⟨z,hz,he,rfl⟩
  ·exact hg1.txs y hy
  ·have:=hg1.txs z hz
   exact this
 ·rcases(hmem y).1 hy with ⟨hy,_⟩|⟨z,hz,he,rfl⟩
  ·exact hf.ids y hy
  ·exact hf.ids z hz
 ·rcases(hmem y).1 hy with ⟨hy,hne⟩|⟨z,hz,he,rfl⟩
  ·rw[if_neg hne];exact ha y hy
  ·show(2:Int)=if z.1=x.1 then 2 else 0
   rw[if_pos he]
theorem OkS.end_(h:OkS pages cap id s A)(hc:A.L.length<cap)(hcap:cap<=400){x:TX}(hx:x∈A.tx)(hi:x.1=id){n:Nat}(hn:A.X1[n]? =some id):Ok pages cap (A.ended n id x.2.2.1):=by
 obtain⟨hv,ha⟩:Live A A.tx/\Q8q id s A.tx:=h.live.resolve_left (by omega)
 subst hi
 have hid:=h.Yc.ids x hx
 have hm:=h.Yc.most
 exact h.Yc.ended (cap:=cap) hv (n:=n) h.Yc.Je hx hn rfl (hv.last x hx) ⟨hid.1,by omega⟩ (by omega) (fun y hy hne=>by have:=ha y hy;rw[if_neg hne]at this;exact this)
theorem OkS.full(h:OkS pages cap id s A)(hc:cap<=A.L.length):Ok pages cap A:=⟨h.Yc,.inl hc⟩
end
section
theorem Q5f{l:List Int}(h:l.Pairwise (·<·))(n:Int):(rin l n).Pairwise (·<·):=by
 unfold rin
 split
 ·exact h
 ·rename_i hne
  have hs:=h
  rw[<-List.take_append_drop (lead l n) l,List.pairwise_append]at hs
  rw[List.pairwise_append,List.pairwise_cons]
  have hlow:∀x∈l.take (lead l n),x<n:=fun x hx=>by
   obtain⟨t,ht⟩:=List.mem_iff_getElem?.1 hx
   rw[List.getElem?_take]at ht
   split at ht
   ·rename_i hlt;exact Q3j ht hlt
   ·cases ht
  have hhigh:∀x∈l.drop (lead l n),n<x:=fun x hx=>by
   cases hd:l[lead l n]? with
   |none=>
    have:=List.getElem?_eq_none_iff.1 hd
    rw[List.drop_eq_nil_of_le this]at hx
    cases hx
   |some y=>
    have hlt:=(List.getElem?_eq_some_iff.1 hd).1
    have hy:=Q3i (l:=l) (n:=n) hd
    have hyn:y≠n:=fun he=>hne (by rw[hd,he])
    have hdc:=List.drop_eq_getElem_cons hlt
    rw[(List.getElem?_eq_some_iff.1 hd).2]at hdc
    rw[hdc]at hx
    rcases List.mem_cons.1 hx with rfl|hx
    ·omega
    ·have:=hs.2.1
     rw[hdc,List.pairwise_cons]at this
     have:=this.1 x hx
     omega
  refine⟨hs.1,⟨hhigh,hs.2.1⟩,fun a ha b hb=> ?_⟩
  rcases List.mem_cons.1 hb with rfl|hb
  ·exact hlow a ha
  ·exact hs.2.2 a ha b hb
theorem Y2y{l:List Int}(h:l.Pairwise (·<·))(n:Int):rin l n=l\/((rin l n).length=l.length+1/\n∉l):=by
 by_cases hn:l[lead l n]? =some n
 ·exact .inl (by unfold rin;rw[if_pos hn])
 ·refine .inr ⟨by unfold rin;rw[if_neg hn];have:=Q0d l n;simp;omega,fun hm=> ?_⟩
  obtain⟨t,ht⟩:=List.mem_iff_getElem?.1 hm
  have h1:¬t<lead l n:=fun hlt=>by have:=Q3j ht hlt;omega
  have h2:¬lead l n<t:=fun hlt=>by
   obtain⟨y,hy⟩:∃y,l[lead l n]? =some y:=⟨_,List.getElem?_eq_getElem (by have:=(List.getElem?_eq_some_iff.1 ht).1;omega)⟩
   have:=Q3i hy
   obtain⟨a1,a2⟩:=List.getElem?_eq_some_iff.1 hy
   obtain⟨b1,b2⟩:=List.getElem?_eq_some_iff.1 ht
   have:=List.pairwise_iff_getElem.1 h (lead l n) t a1 b1 hlt
   omega
  exact hn (by rw[show lead l n=t from by omega];exact ht)
theorem Q1x{α:Type}(p:α->Bool)(f:α->Int)(l:List α):(Cu p f l).Pairwise (·<·):=by
 have h:∀(m:List α) (o:List Int),o.Pairwise (·<·)->(m.foldl (fun o x=>rin o (f x)) o).Pairwise (·<·):=by
  intro m
  induction m with
  |nil=>exact fun o h=>h
  |cons x r ih=>exact fun o h=>ih _ (Q5f h _)
 exact h _ [] List.Pairwise.nil
def left(U seen:List Int):Nat:=(U.filter fun x=>decide (x∉seen)).length
theorem Y2n{U seen:List Int}{n:Int}(hs:seen.Pairwise (·<·))(hn:n∈U):rin seen n=seen\/((rin seen n).length=seen.length+1/\left U (rin seen n)+1<=left U seen):=by
 rcases Y2y hs n with h|⟨h,hnot⟩
 ·exact .inl h
 ·refine .inr ⟨h,?_⟩
  unfold left
  have hsub:∀V:List Int,(V.filter fun x=>decide (x∉rin seen n)).length<=(V.filter fun x=>decide (x∉seen)).length/\(n∈V->(V.filter fun x=>decide (x∉rin seen n)).length+1<=(V.filter fun x=>decide (x∉seen)).length):=by
   intro V
   induction V with
   |nil=>exact⟨Nat.le_refl _,fun h=>by cases h⟩
   |cons y r ih=>
    by_cases h1:y∈seen
    ·have h2:y∈rin seen n:=Q3l.2 (.inr h1)
     have hyn:y≠n:=fun he=>hnot (he▸h1)
     simp only[List.filter_cons,h1,h2,not_true_eq_false,decide_false,Bool.false_eq_true,if_false]
     refine⟨ih.1,fun hm=>ih.2 ?_⟩
     rcases List.mem_cons.1 hm with h|h
     ·exact absurd h.symm hyn
     ·exact h
    ·by_cases h3:y=n
     ·have h2:y∈rin seen n:=Q3l.2 (.inl h3)
      simp only[List.filter_cons,h1,h2,not_true_eq_false,not_false_eq_true,decide_false,decide_true,Bool.false_eq_true,if_false,if_true,List.length_cons]
      have:=ih.1
      exact⟨by omega,fun _=>by omega⟩
     ·have h2:y∉rin seen n:=fun h=>(Q3l.1 h).elim h3 h1
      simp only[List.filter_cons,h1,h2,not_false_eq_true,decide_true,if_true,List.length_cons]
      refine⟨by have:=ih.1;omega,fun hm=> ?_⟩
      rcases List.mem_cons.1 hm with h|h
      ·exact absurd h.symm h3
      ·have:=ih.2 h;omega
  exact(hsub U).2 hn
def Q3t(e:Ending):Prop:=∃b:Bool,e=.returned (.bool b)
structure X0w(U seen0 seen:List Int)(more:Bool):Prop where
 sorted:seen.Pairwise (·<·)
 few:left U seen<=left U seen0
 less:more=true->left U seen+1<=left U seen0
theorem X0w.rin{U seen0 seen:List Int}{more:Bool}(h:X0w U seen0 seen more){n:Int}(hn:n∈U):X0w U seen0 (rin seen n) (more||decide ((seen.length:Int)<(rin seen n).length))/\left U (rin seen n)+(rin seen n).length<=left U seen+seen.length:=by
 rcases Y2n h.sorted hn with he|⟨h1,h2⟩
 ·rw[he]
  refine⟨⟨h.sorted,h.few,fun hm=>h.less ?_⟩,Nat.le_refl _⟩
  simpa using hm
 ·have:=h.few
  exact⟨⟨Q5f h.sorted n,by omega,fun _=>by omega⟩,by omega⟩
variable{F:Fld}
set_option maxRecDepth 4000 in
set_option maxHeartbeats 4000000 in
theorem Q5v(w:World)(tb o:Nat)(row:Option Nat)(l:List (Int×Int))(s:Int)(h:Q3v F w tb o row l)(hlen:l.length<=100000):
  Calls Tryz.prog 140 #[.pointer (some ⟨tb,o,none⟩),.int .i64 s] w fun e w'=>Q3t e/\Below w.heap.size w w':=by
 have HH:=Q0 h
 obtain⟨U,hU⟩:∃U,l.map (·.2)=U:=⟨_,rfl⟩
 have HUL:Sc (U.length<=100000):=⟨by rw[<-hU,List.length_map];exact hlen⟩
 have HOF:Sc (∀t,∀x∈ofW t l,x∈U):=⟨fun t x hx=>by
  obtain⟨y,hy,_,hf⟩:=X1f.1 (show x∈Cu (fun x:Int×Int=>decide (x.1=t)) (fun x=>x.2) l from hx)
  rw[<-hU]
  exact List.mem_map.2 ⟨y,hy,hf⟩⟩
 have HOL:Sc (∀t,(ofW t l).length<=100000):=⟨fun t=>Nat.le_trans (Q4r t l) hlen⟩
 have HOS:Sc ((ofW s l).Pairwise (·<·)):=⟨Q1x _ _ _⟩
 have hlen0:=hlen
 clear h hU
 go_enter Tryz.func140,Tryz.ntmps140
 go_wp2_with fail
 refine(Q2o w tb o row l s HH.o hlen0).mono ?_
 rintro e w1 ⟨v1,rfl,ho,hb⟩
 have HO1:=Q0 ho
 have HB1:=Q0 hb
 obtain⟨s0,hs0⟩:∃s0,ofW s l=s0:=⟨_,rfl⟩
 have HL0:Sc (s0.length<=100000):=⟨by rw[<-hs0];exact HOL.o s⟩
 rw[hs0]at HO1 HOS
 clear ho hb hs0
 go_wp2_with fail
 go_loopg [5,6] (left U s0+1) (fun kx s5 s6 wr=>∃(seen:List Int) (more:Bool),s6=.bool more/\(more=true->left U seen+1<=kx)/\Sc (seen.Pairwise (·<·))/\Sc (left U seen+seen.length<=200000)/\Sc (Own X6 1 3 0 wr s5 seen)/\Sc (Below w.heap.size w wr))
 case atStart=>exact⟨s0,true,rfl,fun _=>Nat.le_refl _,HOS,⟨by have:=HL0.o;have:=HUL.o;have:left U s0<=U.length:=List.length_filter_le _ _;omega⟩,HO1,HB1⟩
 case round=>
  obtain⟨seen,more,rfl,hmore,HSO,HLE,HO,HB⟩:=hrel
  clear HO1 HB1 HL0 HOS
  cases more
  case true=>
   have HMS:Sc (left U seen<gk):=⟨hmore rfl⟩
   clear hmore
   go_wp2_with fail
   obtain⟨wo,rfl⟩:∃wo,wo=wr:=⟨_,rfl⟩
   go_loopg [5,6,7] (left U seen+seen.length) (fun kx s5 s6 s7 wi=>∃(q:List Int) (mo:Bool) (i:Nat),s6=.bool mo/\s7=.int .i64 i/\i<=q.length/\left U q+q.length - i<=kx/\Sc (X0w U seen q mo)/\Sc (left U q+q.length<=200000)/\Sc (Own X6 1 3 0 wi s5 q)/\Sc (Below w.heap.size w wi))
   case atStart=>exact⟨seen,false,0,rfl,rfl,Nat.zero_le _,by omega,⟨⟨HSO.o,Nat.le_refl _,fun h=>by cases h⟩⟩,HLE,HO,HB⟩
   case round=>
    obtain⟨q,mo,i,rfl,rfl,hiq,hkx,HSC,HLQ,HOQ,HBQ⟩:=hrel
    obtain⟨A,cap,rfl,hnc,hcm⟩:=HOQ.o.slice
    have hql:q.length<=200000:=by have:=HLQ.o;omega
    by_cases hlt:i<q.length
    ·obtain⟨x,hx⟩:∃x,q[i]? =some x:=⟨_,List.getElem?_eq_getElem hlt⟩
     obtain⟨g,c2,he,_,_,_,_⟩:=HOQ.o.form (by omega)
     injection he with hA hn2 hC
     subst hA
     have d0:=HOQ.o.Uw hx
     have hil:(i:Int)<q.length:=by omega
     clear hx hn2 hC
     go_wp2_with fail
     refine(Q2o wr tb o row l x (HH.o.bel HBQ.o) hlen0).mono ?_
     rintro e w2 ⟨v2,rfl,ho2,hb2⟩
     obtain⟨A2,cap2,rfl,hnc2,_⟩:=ho2.slice
     obtain⟨m,hm⟩:∃m,(ofW x l).length=m:=⟨_,rfl⟩
     rw[hm]at ho2 hnc2 ⊢
     have hmb:m<=100000:=by rw[<-hm];exact HOL.o x
     have HM:=Q0 hm
     have HO2:=Q0 ho2
     have HB2:=Q0 (Q5 HBQ.o hb2)
     have HOQ2:=Q0 (HOQ.o.below hb2)
     have HXU:Sc (∀y∈ofW x l,y∈U):=⟨HOF.o x⟩
     clear ho2 hb2 hm d0
     go_wp2_with fail
     obtain⟨wj,rfl⟩:∃wj,wj=wr:=⟨_,rfl⟩
     go_loopg [5,6,9] m (fun kx s5 s6 s9 wk=>∃(q':List Int) (mo':Bool) (k:Nat),s6=.bool mo'/\s9=.int .i64 k/\k<=m/\m - k<=kx/\Sc (X0w U seen q' mo')/\left U q'+q'.length<=left U q+q.length/\i<q'.length/\Sc (Own X6 1 3 0 wk s5 q')/\Sc (Below w.heap.size w wk)/\Sc (Below w2.heap.size w2 wk))
     case atStart=>exact⟨q,mo,0,rfl,rfl,Nat.zero_le _,by omega,HSC,Nat.le_refl _,hlt,HOQ2,HB2,⟨Below.refl _ _⟩⟩
     case round=>
      obtain⟨q',mo',k,rfl,rfl,hkm,hkk,HSC',hlq',hiq',HOQ',HBK,HBK2⟩:=hrel
      obtain⟨A3,cap3,rfl,hnc3,hcm3⟩:=HOQ'.o.slice
      have HL5:Sc (q'.length<=1000000):=⟨by have:=HLQ.o;omega⟩
      by_cases hlt2:k<m
      ·obtain⟨y,hy⟩:∃y,(ofW x l)[k]? =some y:=⟨_,List.getElem?_eq_getElem (by rw[HM.o];exact hlt2)⟩
       have hok:=HO2.o.below HBK2.o
       obtain⟨g2,c3,he,_,_,_,_⟩:=hok.form (by rw[HM.o];omega)
       injection he with hA hn2 hC
       subst hA
       have d1:=hok.Uw hy
       have hkl:(k:Int)<m:=by omega
       obtain⟨hs1,hs2⟩:=HSC'.o.rin (HXU.o y (List.mem_of_getElem? hy))
       have HS1:=Q0 hs1
       clear hy hok hn2 hC hs1
       go_wp2_with fail
       refine(E4 _ 0 _ q' y HOQ'.o HL5.o).mono ?_
       rintro e w3 ⟨v3,rfl,ho3,hb3⟩
       obtain⟨A4,cap4,rfl,hnc4,_⟩:=ho3.slice
       have HO3:=Q0 ho3
       have HB3:=Q0 (Q5 HBK.o hb3)
       have HB32:=Q0 (Q5 HBK2.o hb3)
       have hlen3:=(Ce q' y).1
       obtain⟨q3,hq3⟩:∃q3,rin q' y=q3:=⟨_,rfl⟩
       rw[hq3]at HS1 hs2 HO3 hlen3 hnc4 ⊢
       clear ho3 hb3 d1 hq3
       cases mo'
       all_goals
        go_wp2
        go_roundg (m - (k+1))
        case measure=>omega
        case rel=>exact⟨q3,_,k+1,rfl,by go_num,by omega,Nat.le_refl _,⟨by simpa using HS1.o⟩,by omega,by omega,HO3,HB3,HB32⟩
      ·have hkl:¬(k:Int)<m:=by omega
       go_wp2
       go_roundg (left U q'+q'.length - (i+1))
       case measure=>omega
       case rel=>exact⟨q',mo',i+1,rfl,by go_num,by omega,Nat.le_refl _,HSC',⟨by have:=HLQ.o;omega⟩,HOQ',HBK⟩
    ·have hil:¬(i:Int)<q.length:=by omega
     have HLS:=Q0 HSC.o.less
     go_wp2
     go_roundg (left U seen)
     case measure=>exact HMS.o
     case rel=>exact⟨q,mo,rfl,HLS.o,⟨HSC.o.sorted⟩,HLQ,HOQ,HBQ⟩
  case false=>
   obtain⟨A,cap,rfl,hnc,hcm⟩:=HO.o.slice
   have hsl:seen.length<=200000:=by have:=HLE.o;omega
   clear hmore
   go_wp2_with fail
   obtain⟨wo,rfl⟩:∃wo,wo=wr:=⟨_,rfl⟩
   go_loopg [11] seen.length (fun kx s11 wi=>∃i:Nat,s11=.int .i64 i/\i<=seen.length/\seen.length - i<=kx/\wi=wo)
   case atStart=>exact⟨0,rfl,Nat.zero_le _,by omega,rfl⟩
   case round=>
    obtain⟨i,rfl,hiq,hkx,rfl⟩:=hrel
    by_cases hlt:i<seen.length
    ·obtain⟨x,hx⟩:∃x,seen[i]? =some x:=⟨_,List.getElem?_eq_getElem hlt⟩
     obtain⟨g,c2,he,_,_,_,_⟩:=HO.o.form (by omega)
     injection he with hA hn2 hC
     subst hA
     have d0:=HO.o.Uw hx
     have hil:(i:Int)<seen.length:=by omega
     clear hx hn2 hC
     by_cases hxs:x=s
     ·have e1:(x==s)=true:=by simp[hxs]
      clear hxs
      go_wp2
      go_ret
      exact⟨⟨true,rfl⟩,HB.o⟩
     ·have e1:(x==s)=false:=by simp[hxs]
      clear hxs
      go_wp2
      go_roundg (seen.length - (i+1))
      case measure=>omega
      case rel=>exact⟨i+1,by go_num,by omega,Nat.le_refl _,rfl⟩
    ·have hil:¬(i:Int)<seen.length:=by omega
     go_wp2
     go_ret
     exact⟨⟨false,rfl⟩,HB.o⟩
end
end Go.Proofs.YtoapihepdallbaaGreatDoor
