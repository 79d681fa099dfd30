import Derived.Test.YtoapihepdallbaaGreatDoorP08
namespace Go.Proofs.YtoapihepdallbaaGreatDoor
open Go.RowKit
set_option maxHeartbeats 4000000
set_option maxRecDepth 10000
theorem Y1t(w:World)(n lo hi:Int):Calls Tryz.prog 120 #[.int .i64 n,.int .i64 lo,.int .i64 hi] w fun e w'=>e=.returned (.bool (inR n lo hi))/\w'=w:=by
 by_cases h:lo<=n
 ·have h1:decide (lo<=n)=true:=decide_eq_true h
  have HI:Sc (inR n lo hi=decide (n<=hi)):=⟨by unfold inR;rw[h1,Bool.true_and]⟩
  rw[HI.o]
  clear h
  go_enter Tryz.func120,Tryz.ntmps120
  go_wp2
  go_ret
  exact⟨rfl,rfl⟩
 ·have h1:decide (lo<=n)=false:=decide_eq_false h
  have HI:Sc (inR n lo hi=false):=⟨by unfold inR;rw[h1,Bool.false_and]⟩
  rw[HI.o]
  clear h
  go_enter Tryz.func120,Tryz.ntmps120
  go_wp2
  go_ret
  exact⟨rfl,rfl⟩
theorem Xr(x:Int):inR x 0 0=(x==0):=by
 unfold inR
 rw[Yd,<-Bool.decide_and]
 exact decide_eq_decide.2 ⟨fun h=>by omega,fun h=>by omega⟩
theorem Q4{n lo hi:Int}{b:Bool}(w:World)(h:inR n lo hi=b):Calls Tryz.prog 120 #[.int .i64 n,.int .i64 lo,.int .i64 hi] w fun e w'=>e=.returned (.bool b)/\w'=w:=h▸Y1t w n lo hi
theorem Y4v(txn page prev next key:Int)(had has:Bool)(old new:Int):Qq ⟨1,txn,page,prev,next,key,had,has,old,new⟩=(inR txn 1 60000&&((page==0)&&((prev==0)&&(inR next 0 0&&(inR key 0 0&&Qk ⟨1,txn,page,prev,next,key,had,has,old,new⟩))))):=by
 have hp:Z7 ⟨1,txn,page,prev,next,key,had,has,old,new⟩=(prev==0):=by simp[Z7,Yd]
 have hn:Z6 ⟨1,txn,page,prev,next,key,had,has,old,new⟩=inR next 0 0:=by simp[Z6,Xr,Yd]
 have hk:Va ⟨1,txn,page,prev,next,key,had,has,old,new⟩=inR key 0 0:=by simp[Va,Xr,Yd]
 have ht:inR txn (min (Yv ⟨1,txn,page,prev,next,key,had,has,old,new⟩) 1) (Yv ⟨1,txn,page,prev,next,key,had,has,old,new⟩)=inR txn 1 60000:=by rw[show Yv ⟨1,txn,page,prev,next,key,had,has,old,new⟩=60000 by simp[Yv]];exact rfl
 have hg:inR page (min (Xi ⟨1,txn,page,prev,next,key,had,has,old,new⟩) 1) (Xi ⟨1,txn,page,prev,next,key,had,has,old,new⟩)=(page==0):=by rw[show Xi ⟨1,txn,page,prev,next,key,had,has,old,new⟩=0 by simp[Xi]];exact Xr page
 have h0:inR (1:Int) 1 10=true:=by decide
 unfold Qq
 rw[hp,hn,hk,ht,hg]
 simp only[h0,Bool.true_and,Bool.and_assoc]
theorem X8u(w:World)(txn page prev next key:Int)(had has:Bool)(old new:Int):Calls Tryz.prog 73 #[Yg ⟨1,txn,page,prev,next,key,had,has,old,new⟩] w fun e w'=>e=.returned (.bool (Qq ⟨1,txn,page,prev,next,key,had,has,old,new⟩))/\Below w.heap.size w w':=by
 have HB:Sc (Below w.heap.size w (w.alloc (.cells (Qe ⟨1,txn,page,prev,next,key,had,has,old,new⟩) 49))):=⟨Q3 (Below.refl _ _) _⟩
 rw[Y4v]
 cases e1:inR txn 1 60000 with
 |false=>
  go_enter Tryz.func73,Tryz.ntmps73
  go_wp2_with (go_at_call 120;first|(refine(Q4 _ (by assumption)).mono ?_;rintro e w' ⟨rfl,rfl⟩)|(refine(Q4 _ (show _=true by decide)).mono ?_;rintro e w' ⟨rfl,rfl⟩)|(refine(Q4 _ (show _=false by decide)).mono ?_;rintro e w' ⟨rfl,rfl⟩))
  go_ret
  exact⟨by simp,HB.o⟩
 |true=>
  by_cases ze2:page=0
  ·subst ze2
   by_cases ze3:prev=0
   ·subst ze3
    cases e4:inR next 0 0 with
    |false=>
     go_enter Tryz.func73,Tryz.ntmps73
     go_wp2_with (go_at_call 120;first|(refine(Q4 _ (by assumption)).mono ?_;rintro e w' ⟨rfl,rfl⟩)|(refine(Q4 _ (show _=true by decide)).mono ?_;rintro e w' ⟨rfl,rfl⟩)|(refine(Q4 _ (show _=false by decide)).mono ?_;rintro e w' ⟨rfl,rfl⟩))
     go_ret
     exact⟨by simp,HB.o⟩
    |true=>
     cases e5:inR key 0 0 with
     |false=>
      go_enter Tryz.func73,Tryz.ntmps73
      go_wp2_with (go_at_call 120;first|(refine(Q4 _ (by assumption)).mono ?_;rintro e w' ⟨rfl,rfl⟩)|(refine(Q4 _ (show _=true by decide)).mono ?_;rintro e w' ⟨rfl,rfl⟩)|(refine(Q4 _ (show _=false by decide)).mono ?_;rintro e w' ⟨rfl,rfl⟩))
      go_ret
      exact⟨by simp,HB.o⟩
     |true=>
      cases had with
      |true=>
       go_enter Tryz.func73,Tryz.ntmps73
       go_wp2_with (go_at_call 120;first|(refine(Q4 _ (by assumption)).mono ?_;rintro e w' ⟨rfl,rfl⟩)|(refine(Q4 _ (show _=true by decide)).mono ?_;rintro e w' ⟨rfl,rfl⟩)|(refine(Q4 _ (show _=false by decide)).mono ?_;rintro e w' ⟨rfl,rfl⟩))
       go_ret
       exact⟨by simp[Qk],HB.o⟩
      |false=>
       by_cases ho:old=0
       ·subst ho
        cases has with
        |true=>
         go_enter Tryz.func73,Tryz.ntmps73
         go_wp2_with (go_at_call 120;first|(refine(Q4 _ (by assumption)).mono ?_;rintro e w' ⟨rfl,rfl⟩)|(refine(Q4 _ (show _=true by decide)).mono ?_;rintro e w' ⟨rfl,rfl⟩)|(refine(Q4 _ (show _=false by decide)).mono ?_;rintro e w' ⟨rfl,rfl⟩))
         go_ret
         exact⟨by simp[Qk],HB.o⟩
        |false=>
         by_cases hn:new=0
         ·subst hn
          go_enter Tryz.func73,Tryz.ntmps73
          go_wp2_with (go_at_call 120;first|(refine(Q4 _ (by assumption)).mono ?_;rintro e w' ⟨rfl,rfl⟩)|(refine(Q4 _ (show _=true by decide)).mono ?_;rintro e w' ⟨rfl,rfl⟩)|(refine(Q4 _ (show _=false by decide)).mono ?_;rintro e w' ⟨rfl,rfl⟩))
          go_ret
          exact⟨by simp[Qk],HB.o⟩
         ·have hb:=Ql hn
          go_enter Tryz.func73,Tryz.ntmps73
          go_wp2_with (go_at_call 120;first|(refine(Q4 _ (by assumption)).mono ?_;rintro e w' ⟨rfl,rfl⟩)|(refine(Q4 _ (show _=true by decide)).mono ?_;rintro e w' ⟨rfl,rfl⟩)|(refine(Q4 _ (show _=false by decide)).mono ?_;rintro e w' ⟨rfl,rfl⟩))
          go_ret
          exact⟨by simp[Qk,hn],HB.o⟩
       ·have hb:=Ql ho
        go_enter Tryz.func73,Tryz.ntmps73
        go_wp2_with (go_at_call 120;first|(refine(Q4 _ (by assumption)).mono ?_;rintro e w' ⟨rfl,rfl⟩)|(refine(Q4 _ (show _=true by decide)).mono ?_;rintro e w' ⟨rfl,rfl⟩)|(refine(Q4 _ (show _=false by decide)).mono ?_;rintro e w' ⟨rfl,rfl⟩))
        go_ret
        exact⟨by simp[Qk,ho],HB.o⟩
   ·have e3:=Ql ze3
    go_enter Tryz.func73,Tryz.ntmps73
    go_wp2_with (go_at_call 120;first|(refine(Q4 _ (by assumption)).mono ?_;rintro e w' ⟨rfl,rfl⟩)|(refine(Q4 _ (show _=true by decide)).mono ?_;rintro e w' ⟨rfl,rfl⟩)|(refine(Q4 _ (show _=false by decide)).mono ?_;rintro e w' ⟨rfl,rfl⟩))
    go_ret
    exact⟨by simp[ze3],HB.o⟩
  ·have e2:=Ql ze2
   go_enter Tryz.func73,Tryz.ntmps73
   go_wp2_with (go_at_call 120;first|(refine(Q4 _ (by assumption)).mono ?_;rintro e w' ⟨rfl,rfl⟩)|(refine(Q4 _ (show _=true by decide)).mono ?_;rintro e w' ⟨rfl,rfl⟩)|(refine(Q4 _ (show _=false by decide)).mono ?_;rintro e w' ⟨rfl,rfl⟩))
   go_ret
   exact⟨by simp[ze2],HB.o⟩
theorem Y4w(txn page prev next key:Int)(had has:Bool)(old new:Int):Qq ⟨2,txn,page,prev,next,key,had,has,old,new⟩=(inR txn 1 60000&&(inR page 1 32&&(inR prev 0 1073741824&&(inR next 0 0&&(inR key 0 1048575&&Qk ⟨2,txn,page,prev,next,key,had,has,old,new⟩))))):=by
 have hp:Z7 ⟨2,txn,page,prev,next,key,had,has,old,new⟩=inR prev 0 1073741824:=by simp[Z7]
 have hn:Z6 ⟨2,txn,page,prev,next,key,had,has,old,new⟩=inR next 0 0:=by simp[Z6,Xr,Yd]
 have hk:Va ⟨2,txn,page,prev,next,key,had,has,old,new⟩=inR key 0 1048575:=by simp[Va]
 have ht:inR txn (min (Yv ⟨2,txn,page,prev,next,key,had,has,old,new⟩) 1) (Yv ⟨2,txn,page,prev,next,key,had,has,old,new⟩)=inR txn 1 60000:=by rw[show Yv ⟨2,txn,page,prev,next,key,had,has,old,new⟩=60000 by simp[Yv]];exact rfl
 have hg:inR page (min (Xi ⟨2,txn,page,prev,next,key,had,has,old,new⟩) 1) (Xi ⟨2,txn,page,prev,next,key,had,has,old,new⟩)=inR page 1 32:=by rw[show Xi ⟨2,txn,page,prev,next,key,had,has,old,new⟩=32 by simp[Xi]];exact rfl
 have h0:inR (2:Int) 1 10=true:=by decide
 unfold Qq
 rw[hp,hn,hk,ht,hg]
 simp only[h0,Bool.true_and,Bool.and_assoc]
theorem X8v(w:World)(txn page prev next key:Int)(had has:Bool)(old new:Int):Calls Tryz.prog 73 #[Yg ⟨2,txn,page,prev,next,key,had,has,old,new⟩] w fun e w'=>e=.returned (.bool (Qq ⟨2,txn,page,prev,next,key,had,has,old,new⟩))/\Below w.heap.size w w':=by
 have HB:Sc (Below w.heap.size w (w.alloc (.cells (Qe ⟨2,txn,page,prev,next,key,had,has,old,new⟩) 49))):=⟨Q3 (Below.refl _ _) _⟩
 rw[Y4w]
 cases e1:inR txn 1 60000 with
 |false=>
  go_enter Tryz.func73,Tryz.ntmps73
  go_wp2_with (go_at_call 120;first|(refine(Q4 _ (by assumption)).mono ?_;rintro e w' ⟨rfl,rfl⟩)|(refine(Q4 _ (show _=true by decide)).mono ?_;rintro e w' ⟨rfl,rfl⟩)|(refine(Q4 _ (show _=false by decide)).mono ?_;rintro e w' ⟨rfl,rfl⟩))
  go_ret
  exact⟨by simp,HB.o⟩
 |true=>
  cases e2:inR page 1 32 with
  |false=>
   go_enter Tryz.func73,Tryz.ntmps73
   go_wp2_with (go_at_call 120;first|(refine(Q4 _ (by assumption)).mono ?_;rintro e w' ⟨rfl,rfl⟩)|(refine(Q4 _ (show _=true by decide)).mono ?_;rintro e w' ⟨rfl,rfl⟩)|(refine(Q4 _ (show _=false by decide)).mono ?_;rintro e w' ⟨rfl,rfl⟩))
   go_ret
   exact⟨by simp,HB.o⟩
  |true=>
   cases e3:inR prev 0 1073741824 with
   |false=>
    go_enter Tryz.func73,Tryz.ntmps73
    go_wp2_with (go_at_call 120;first|(refine(Q4 _ (by assumption)).mono ?_;rintro e w' ⟨rfl,rfl⟩)|(refine(Q4 _ (show _=true by decide)).mono ?_;rintro e w' ⟨rfl,rfl⟩)|(refine(Q4 _ (show _=false by decide)).mono ?_;rintro e w' ⟨rfl,rfl⟩))
    go_ret
    exact⟨by simp,HB.o⟩
   |true=>
    cases e4:inR next 0 0 with
    |false=>
     go_enter Tryz.func73,Tryz.ntmps73
     go_wp2_with (go_at_call 120;first|(refine(Q4 _ (by assumption)).mono ?_;rintro e w' ⟨rfl,rfl⟩)|(refine(Q4 _ (show _=true by decide)).mono ?_;rintro e w' ⟨rfl,rfl⟩)|(refine(Q4 _ (show _=false by decide)).mono ?_;rintro e w' ⟨rfl,rfl⟩))
     go_ret
     exact⟨by simp,HB.o⟩
    |true=>
     cases e5:inR key 0 1048575 with
     |false=>
      go_enter Tryz.func73,Tryz.ntmps73
      go_wp2_with (go_at_call 120;first|(refine(Q4 _ (by assumption)).mono ?_;rintro e w' ⟨rfl,rfl⟩)|(refine(Q4 _ (show _=true by decide)).mono ?_;rintro e w' ⟨rfl,rfl⟩)|(refine(Q4 _ (show _=false by decide)).mono ?_;rintro e w' ⟨rfl,rfl⟩))
      go_ret
      exact⟨by simp,HB.o⟩
     |true=>
      cases had with
      |true=>
       cases has with
       |true=>
        go_enter Tryz.func73,Tryz.ntmps73
        go_wp2_with (go_at_call 120;first|(refine(Q4 _ (by assumption)).mono ?_;rintro e w' ⟨rfl,rfl⟩)|(refine(Q4 _ (show _=true by decide)).mono ?_;rintro e w' ⟨rfl,rfl⟩)|(refine(Q4 _ (show _=false by decide)).mono ?_;rintro e w' ⟨rfl,rfl⟩))
        go_ret
        exact⟨by simp[Qk],HB.o⟩
       |false=>
        by_cases hn:new=0
        ·subst hn
         go_enter Tryz.func73,Tryz.ntmps73
         go_wp2_with (go_at_call 120;first|(refine(Q4 _ (by assumption)).mono ?_;rintro e w' ⟨rfl,rfl⟩)|(refine(Q4 _ (show _=true by decide)).mono ?_;rintro e w' ⟨rfl,rfl⟩)|(refine(Q4 _ (show _=false by decide)).mono ?_;rintro e w' ⟨rfl,rfl⟩))
         go_ret
         exact⟨by simp[Qk],HB.o⟩
        ·have hb:=Ql hn
         go_enter Tryz.func73,Tryz.ntmps73
         go_wp2_with (go_at_call 120;first|(refine(Q4 _ (by assumption)).mono ?_;rintro e w' ⟨rfl,rfl⟩)|(refine(Q4 _ (show _=true by decide)).mono ?_;rintro e w' ⟨rfl,rfl⟩)|(refine(Q4 _ (show _=false by decide)).mono ?_;rintro e w' ⟨rfl,rfl⟩))
         go_ret
         exact⟨by simp[Qk,hn],HB.o⟩
      |false=>
       by_cases ho:old=0
       ·subst ho
        cases has with
        |true=>
         go_enter Tryz.func73,Tryz.ntmps73
         go_wp2_with (go_at_call 120;first|(refine(Q4 _ (by assumption)).mono ?_;rintro e w' ⟨rfl,rfl⟩)|(refine(Q4 _ (show _=true by decide)).mono ?_;rintro e w' ⟨rfl,rfl⟩)|(refine(Q4 _ (show _=false by decide)).mono ?_;rintro e w' ⟨rfl,rfl⟩))
         go_ret
         exact⟨by simp[Qk],HB.o⟩
        |false=>
         by_cases hn:new=0
         ·subst hn
          go_enter Tryz.func73,Tryz.ntmps73
          go_wp2_with (go_at_call 120;first|(refine(Q4 _ (by assumption)).mono ?_;rintro e w' ⟨rfl,rfl⟩)|(refine(Q4 _ (show _=true by decide)).mono ?_;rintro e w' ⟨rfl,rfl⟩)|(refine(Q4 _ (show _=false by decide)).mono ?_;rintro e w' ⟨rfl,rfl⟩))
          go_ret
          exact⟨by simp[Qk],HB.o⟩
         ·have hb:=Ql hn
          go_enter Tryz.func73,Tryz.ntmps73
          go_wp2_with (go_at_call 120;first|(refine(Q4 _ (by assumption)).mono ?_;rintro e w' ⟨rfl,rfl⟩)|(refine(Q4 _ (show _=true by decide)).mono ?_;rintro e w' ⟨rfl,rfl⟩)|(refine(Q4 _ (show _=false by decide)).mono ?_;rintro e w' ⟨rfl,rfl⟩))
          go_ret
          exact⟨by simp[Qk,hn],HB.o⟩
       ·have hb:=Ql ho
        cases has with
        |true=>
         go_enter Tryz.func73,Tryz.ntmps73
         go_wp2_with (go_at_call 120;first|(refine(Q4 _ (by assumption)).mono ?_;rintro e w' ⟨rfl,rfl⟩)|(refine(Q4 _ (show _=true by decide)).mono ?_;rintro e w' ⟨rfl,rfl⟩)|(refine(Q4 _ (show _=false by decide)).mono ?_;rintro e w' ⟨rfl,rfl⟩))
         go_ret
         exact⟨by simp[Qk,ho],HB.o⟩
        |false=>
         go_enter Tryz.func73,Tryz.ntmps73
         go_wp2_with (go_at_call 120;first|(refine(Q4 _ (by assumption)).mono ?_;rintro e w' ⟨rfl,rfl⟩)|(refine(Q4 _ (show _=true by decide)).mono ?_;rintro e w' ⟨rfl,rfl⟩)|(refine(Q4 _ (show _=false by decide)).mono ?_;rintro e w' ⟨rfl,rfl⟩))
         go_ret
         exact⟨by simp[Qk,ho],HB.o⟩
theorem Y4x(txn page prev next key:Int)(had has:Bool)(old new:Int):Qq ⟨3,txn,page,prev,next,key,had,has,old,new⟩=(inR txn 1 60000&&(inR page 1 32&&(inR prev 0 1073741824&&(inR next 0 1073741824&&(inR key 0 1048575&&Qk ⟨3,txn,page,prev,next,key,had,has,old,new⟩))))):=by
 have hp:Z7 ⟨3,txn,page,prev,next,key,had,has,old,new⟩=inR prev 0 1073741824:=by simp[Z7]
 have hn:Z6 ⟨3,txn,page,prev,next,key,had,has,old,new⟩=inR next 0 1073741824:=by simp[Z6]
 have hk:Va ⟨3,txn,page,prev,next,key,had,has,old,new⟩=inR key 0 1048575:=by simp[Va]
 have ht:inR txn (min (Yv ⟨3,txn,page,prev,next,key,had,has,old,new⟩) 1) (Yv ⟨3,txn,page,prev,next,key,had,has,old,new⟩)=inR txn 1 60000:=by rw[show Yv ⟨3,txn,page,prev,next,key,had,has,old,new⟩=60000 by simp[Yv]];exact rfl
 have hg:inR page (min (Xi ⟨3,txn,page,prev,next,key,had,has,old,new⟩) 1) (Xi ⟨3,txn,page,prev,next,key,had,has,old,new⟩)=inR page 1 32:=by rw[show Xi ⟨3,txn,page,prev,next,key,had,has,old,new⟩=32 by simp[Xi]];exact rfl
 have h0:inR (3:Int) 1 10=true:=by decide
 unfold Qq
 rw[hp,hn,hk,ht,hg]
 simp only[h0,Bool.true_and,Bool.and_assoc]
theorem X8w(w:World)(txn page prev next key:Int)(had has:Bool)(old new:Int):Calls Tryz.prog 73 #[Yg ⟨3,txn,page,prev,next,key,had,has,old,new⟩] w fun e w'=>e=.returned (.bool (Qq ⟨3,txn,page,prev,next,key,had,has,old,new⟩))/\Below w.heap.size w w':=by
 have HB:Sc (Below w.heap.size w (w.alloc (.cells (Qe ⟨3,txn,page,prev,next,key,had,has,old,new⟩) 49))):=⟨Q3 (Below.refl _ _) _⟩
 rw[Y4x]
 cases e1:inR txn 1 60000 with
 |false=>
  go_enter Tryz.func73,Tryz.ntmps73
  go_wp2_with (go_at_call 120;first|(refine(Q4 _ (by assumption)).mono ?_;rintro e w' ⟨rfl,rfl⟩)|(refine(Q4 _ (show _=true by decide)).mono ?_;rintro e w' ⟨rfl,rfl⟩)|(refine(Q4 _ (show _=false by decide)).mono ?_;rintro e w' ⟨rfl,rfl⟩))
  go_ret
  exact⟨by simp,HB.o⟩
 |true=>
  cases e2:inR page 1 32 with
  |false=>
   go_enter Tryz.func73,Tryz.ntmps73
   go_wp2_with (go_at_call 120;first|(refine(Q4 _ (by assumption)).mono ?_;rintro e w' ⟨rfl,rfl⟩)|(refine(Q4 _ (show _=true by decide)).mono ?_;rintro e w' ⟨rfl,rfl⟩)|(refine(Q4 _ (show _=false by decide)).mono ?_;rintro e w' ⟨rfl,rfl⟩))
   go_ret
   exact⟨by simp,HB.o⟩
  |true=>
   cases e3:inR prev 0 1073741824 with
   |false=>
    go_enter Tryz.func73,Tryz.ntmps73
    go_wp2_with (go_at_call 120;first|(refine(Q4 _ (by assumption)).mono ?_;rintro e w' ⟨rfl,rfl⟩)|(refine(Q4 _ (show _=true by decide)).mono ?_;rintro e w' ⟨rfl,rfl⟩)|(refine(Q4 _ (show _=false by decide)).mono ?_;rintro e w' ⟨rfl,rfl⟩))
    go_ret
    exact⟨by simp,HB.o⟩
   |true=>
    cases e4:inR next 0 1073741824 with
    |false=>
     go_enter Tryz.func73,Tryz.ntmps73
     go_wp2_with (go_at_call 120;first|(refine(Q4 _ (by assumption)).mono ?_;rintro e w' ⟨rfl,rfl⟩)|(refine(Q4 _ (show _=true by decide)).mono ?_;rintro e w' ⟨rfl,rfl⟩)|(refine(Q4 _ (show _=false by decide)).mono ?_;rintro e w' ⟨rfl,rfl⟩))
     go_ret
     exact⟨by simp,HB.o⟩
    |true=>
     cases e5:inR key 0 1048575 with
     |false=>
      go_enter Tryz.func73,Tryz.ntmps73
      go_wp2_with (go_at_call 120;first|(refine(Q4 _ (by assumption)).mono ?_;rintro e w' ⟨rfl,rfl⟩)|(refine(Q4 _ (show _=true by decide)).mono ?_;rintro e w' ⟨rfl,rfl⟩)|(refine(Q4 _ (show _=false by decide)).mono ?_;rintro e w' ⟨rfl,rfl⟩))
      go_ret
      exact⟨by simp,HB.o⟩
     |true=>
      by_cases h1:1<=old
      ·have h1a:decide (old<1)=false:=decide_eq_false (by omega)
       have h1b:¬old=0:=by omega
       by_cases h2:old<=1073741824
       ·have h2a:decide (1073741824<old)=false:=decide_eq_false (by omega)
        cases had with
        |false=>
         cases has with
         |false=>
          go_enter Tryz.func73,Tryz.ntmps73
          go_wp2_with (go_at_call 120;first|(refine(Q4 _ (by assumption)).mono ?_;rintro e w' ⟨rfl,rfl⟩)|(refine(Q4 _ (show _=true by decide)).mono ?_;rintro e w' ⟨rfl,rfl⟩)|(refine(Q4 _ (show _=false by decide)).mono ?_;rintro e w' ⟨rfl,rfl⟩))
          go_ret
          exact⟨by simp[Qk,h1b],HB.o⟩
         |true=>
          go_enter Tryz.func73,Tryz.ntmps73
          go_wp2_with (go_at_call 120;first|(refine(Q4 _ (by assumption)).mono ?_;rintro e w' ⟨rfl,rfl⟩)|(refine(Q4 _ (show _=true by decide)).mono ?_;rintro e w' ⟨rfl,rfl⟩)|(refine(Q4 _ (show _=false by decide)).mono ?_;rintro e w' ⟨rfl,rfl⟩))
          go_ret
          exact⟨by simp[Qk,h1b],HB.o⟩
        |true=>
         cases has with
         |true=>
          go_enter Tryz.func73,Tryz.ntmps73
          go_wp2_with (go_at_call 120;first|(refine(Q4 _ (by assumption)).mono ?_;rintro e w' ⟨rfl,rfl⟩)|(refine(Q4 _ (show _=true by decide)).mono ?_;rintro e w' ⟨rfl,rfl⟩)|(refine(Q4 _ (show _=false by decide)).mono ?_;rintro e w' ⟨rfl,rfl⟩))
          go_ret
          exact⟨by simp[Qk,h1,h2],HB.o⟩
         |false=>
          by_cases hn:new=0
          ·subst hn
           go_enter Tryz.func73,Tryz.ntmps73
           go_wp2_with (go_at_call 120;first|(refine(Q4 _ (by assumption)).mono ?_;rintro e w' ⟨rfl,rfl⟩)|(refine(Q4 _ (show _=true by decide)).mono ?_;rintro e w' ⟨rfl,rfl⟩)|(refine(Q4 _ (show _=false by decide)).mono ?_;rintro e w' ⟨rfl,rfl⟩))
           go_ret
           exact⟨by simp[Qk,h1,h2],HB.o⟩
          ·have hb:=Ql hn
           go_enter Tryz.func73,Tryz.ntmps73
           go_wp2_with (go_at_call 120;first|(refine(Q4 _ (by assumption)).mono ?_;rintro e w' ⟨rfl,rfl⟩)|(refine(Q4 _ (show _=true by decide)).mono ?_;rintro e w' ⟨rfl,rfl⟩)|(refine(Q4 _ (show _=false by decide)).mono ?_;rintro e w' ⟨rfl,rfl⟩))
           go_ret
           exact⟨by simp[Qk,hn],HB.o⟩
       ·have h2a:decide (1073741824<old)=true:=decide_eq_true (by omega)
        cases had with
        |false=>
         cases has with
         |false=>
          go_enter Tryz.func73,Tryz.ntmps73
          go_wp2_with (go_at_call 120;first|(refine(Q4 _ (by assumption)).mono ?_;rintro e w' ⟨rfl,rfl⟩)|(refine(Q4 _ (show _=true by decide)).mono ?_;rintro e w' ⟨rfl,rfl⟩)|(refine(Q4 _ (show _=false by decide)).mono ?_;rintro e w' ⟨rfl,rfl⟩))
          go_ret
          exact⟨by simp[Qk,h1b],HB.o⟩
         |true=>
          go_enter Tryz.func73,Tryz.ntmps73
          go_wp2_with (go_at_call 120;first|(refine(Q4 _ (by assumption)).mono ?_;rintro e w' ⟨rfl,rfl⟩)|(refine(Q4 _ (show _=true by decide)).mono ?_;rintro e w' ⟨rfl,rfl⟩)|(refine(Q4 _ (show _=false by decide)).mono ?_;rintro e w' ⟨rfl,rfl⟩))
          go_ret
          exact⟨by simp[Qk,h1b],HB.o⟩
        |true=>
         go_enter Tryz.func73,Tryz.ntmps73
         go_wp2_with (go_at_call 120;first|(refine(Q4 _ (by assumption)).mono ?_;rintro e w' ⟨rfl,rfl⟩)|(refine(Q4 _ (show _=true by decide)).mono ?_;rintro e w' ⟨rfl,rfl⟩)|(refine(Q4 _ (show _=false by decide)).mono ?_;rintro e w' ⟨rfl,rfl⟩))
         go_ret
         exact⟨by simp[Qk,h2],HB.o⟩
      ·have h1a:decide (old<1)=true:=decide_eq_true (by omega)
       cases had with
       |false=>
        go_enter Tryz.func73,Tryz.ntmps73
        go_wp2_with (go_at_call 120;first|(refine(Q4 _ (by assumption)).mono ?_;rintro e w' ⟨rfl,rfl⟩)|(refine(Q4 _ (show _=true by decide)).mono ?_;rintro e w' ⟨rfl,rfl⟩)|(refine(Q4 _ (show _=false by decide)).mono ?_;rintro e w' ⟨rfl,rfl⟩))
        go_ret
        exact⟨by simp[Qk],HB.o⟩
       |true=>
        have h1c:decide (1<=old)=false:=decide_eq_false h1
        go_enter Tryz.func73,Tryz.ntmps73
        go_wp2_with (go_at_call 120;first|(refine(Q4 _ (by assumption)).mono ?_;rintro e w' ⟨rfl,rfl⟩)|(refine(Q4 _ (show _=true by decide)).mono ?_;rintro e w' ⟨rfl,rfl⟩)|(refine(Q4 _ (show _=false by decide)).mono ?_;rintro e w' ⟨rfl,rfl⟩))
        go_ret
        exact⟨by simp only[Qk,h1c];simp,HB.o⟩
end Go.Proofs.YtoapihepdallbaaGreatDoor
