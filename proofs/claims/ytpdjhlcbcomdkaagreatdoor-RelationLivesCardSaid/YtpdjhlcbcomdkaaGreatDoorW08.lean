/- Part of a proof. -/
import Derived.Test.YtpdjhlcbcomdkaaGreatDoorW0R
set_option linter.unusedVariables false
set_option linter.unusedSimpArgs false
set_option maxRecDepth 100000
set_option maxHeartbeats 16000000
open Go Go.Q Go.Qr
namespace Go.Proofs.Rm
open Go.RowKit Go.Proofs.Heap Go.Proofs.Mem
theorem IA {a b:ByteArray} (h:a=b):Ending.returned (.string a) = .returned (.string b):=by rw [h]
theorem Xy {a b:Bool} (h:a=b):Ending.returned (.bool a) = .returned (.bool b):=by rw [h]
theorem YW {k:IntKind} {a b:Int} (h:a=b):Ending.returned (.int k a) = .returned (.int k b):=by rw [h]
theorem Xq (n k:Int):VK n k=true↔1≤n∧n<k:=by unfold VK;simp
theorem Ms (n k:Int) (w:World):Calls Tryz.prog 111 (Qz n k) w fun e w'=>e = .returned (.bool (VK n k))∧w=w':=by
 have hi:=Xq n k
 by_cases h:1≤n
 ·have HF:Hid (VK n k=decide (n<k)):=by show _=_;unfold VK;simp [h]
  clear hi
  go_enter Tryz.func111,Tryz.ntmps111
  go_wp2
  go_ret
  exact ⟨Xy HF.o.symm,rfl⟩
 ·have HF:Hid (VK n k=false):=by show _=_;rw [K4,ne_eq,hi];omega
  clear hi
  go_enter Tryz.func111,Tryz.ntmps111
  go_wp2
  go_ret
  exact ⟨Xy HF.o.symm,rfl⟩
theorem qH (l:List UInt8):(str l).toList=[]↔l=[]:=by
 rw [toList_nil_iff_emptyBytes]
 constructor
 ·intro h
  have:=congrArg (fun b:ByteArray=>b.data.toList) h
  simpa [str] using this
 ·intro h;subst h;rfl
theorem IC (l:List UInt8):(str l).toList.isEmpty=l.isEmpty:=by
 rw [Bool.eq_iff_iff,List.isEmpty_iff,List.isEmpty_iff,qH]
theorem TJ (b:Nat) (R:Room) (p:Int) (w:World) (hR:ZT w b R):Calls Tryz.prog 80 (Qj (some ⟨b,0,none⟩) p) w fun e w'=>e = .returned (.bool (Ze R p))∧w=w':=by
 have C:=Zh (fun w=>Ms p 9 w)
 by_cases hi:VK p 9=true
 ·rw [hi] at C
  obtain ⟨h1,h2⟩:=(Xq p 9).1 hi
  obtain ⟨n,rfl⟩:=QT (show 0≤p by omega)
  have hn:n<9:=by omega
  have hc:=hR.vA hn
  have HF:Hid (Ze R n = !(str (R.names n)).toList.isEmpty):=by show _=_;unfold Ze;rw [hi,Wv,IC,Bool.true_and]
  clear hi hR
  go_enter Tryz.func80,Tryz.ntmps80
  go_wp2_with (go_at_call 111;refine (C.o _).mono ?_;rintro e w' ⟨rfl,rfl⟩)
  all_goals go_ret
  all_goals exact ⟨Xy (by rw [HF.o]),rfl⟩
 ·have hi:VK p 9=false:=by simpa using hi
  have HF:Hid (Ze R p=false):=by show _=_;unfold Ze;rw [hi];rfl
  rw [hi] at C
  clear hi
  go_enter Tryz.func80,Tryz.ntmps80
  go_wp2_with (go_at_call 111;refine (C.o _).mono ?_;rintro e w' ⟨rfl,rfl⟩)
  go_ret
  exact ⟨Xy HF.o.symm,rfl⟩
theorem Cq (b:Nat) (R:Room) (p n:Nat) (w:World) (hR:ZT w b R) (hn:n<9) (hp:p<9) :
  Calls Tryz.prog 139 (Qs (some ⟨b,0,none⟩) p n) w fun e w'=>e = .returned (.agg (Qh 2 p n 0 0))∧ZT w' b (R.ZP n p Ve)∧Fr w (· = b) w w':=by
 obtain ⟨c0,c1,c2⟩:=hR.Hx hn hp
 have f0:=hR.YC (54+n*27+p*3)
 have f1:=hR.YC (54+n*27+p*3+1)
 have f2:=hR.YC (54+n*27+p*3+2)
 have hb:=hR.lt
 go_enter Tryz.func139,Tryz.ntmps139
 go_wp2
 refine VJ (v:= .agg (Qh 2 p n 0 0)) (by simp [results,Tryz.results139,go_sem]) rfl ⟨rfl,?_,?_⟩
 ·exact (hR.ZP hn hp Ve).below (Z' _ _)
 ·exact ((((Fr.refl _ _ _).setAt _ _).setAt _ _).setAt _ _).alloc (by simp only [size_setCell];exact Zw _) _
theorem zM (b:Nat) (R:Room) (p n:Nat) (w:World) (hR:ZT w b R) (hn:n<9) (hp:p<9) (hw:0≤(R.sub n p).want∧(R.sub n p).want<(R.src n).ss.length) :
  Calls Tryz.prog 166 (Qs (some ⟨b,0,none⟩) p n) w fun e w'=>e = .returned (V8 (asks R p n))∧Below w w w':=by
 obtain ⟨c0,c1,c2⟩:=hR.Hx hn hp
 obtain ⟨s0,s1,s2,s3,s4⟩:=hR.MZ hn
 obtain ⟨k,hk⟩:=QT hw.1
 rw [hk] at hw c2
 have VR:k<(R.src n).ss.length:=by omega
 obtain ⟨g,off,cap,Io,hlc,wR,hg,Yw⟩:=NQ (hR.rows n hn) Zo
 have hx:=Yw k VR
 have HA:Hid (asks R p n=⟨9,(R.src n).own,n,0,(R.src n).ss.getD k 0⟩):=by show _=_;unfold asks;rw [hk];rfl
 rw [Io] at s3
 have hb:=hR.lt
 have hlen:=(hR.rows n hn).len
 clear hk Yw Io hR
 generalize (R.src n).ss.getD k 0=X at *
 generalize (R.src n).ss.length=L at *
 generalize (R.src n).own=O at *
 go_enter Tryz.func166,Tryz.ntmps166
 go_wp2
 go_region
 go_wp2
 refine VJ (v:=V8 ⟨9,O,n,0,X⟩) (by simp [results,Tryz.results166,go_sem,V8]) rfl ⟨by rw [HA.o],?_⟩
 exact (((YH _ _).alloc (Zw _) _).alloc Zi _).drew
theorem KJ (b:Nat) (R:Room) (p n:Nat) (w:World) (hR:ZT w b R) (hn:n<9) (hp:p<9) (hw:0≤(R.sub n p).want∧(R.sub n p).want<(R.src n).ss.length) :
  Calls Tryz.prog 141 (Qs (some ⟨b,0,none⟩) p n) w fun e w'=>(∃ v,e = .returned v∧YG w' v (waits R p n))∧Below w w w':=by
 obtain ⟨c0,c1,c2⟩:=hR.Hx hn hp
 obtain ⟨s0,s1,s2,s3,s4⟩:=hR.MZ hn
 have hb:=hR.lt
 have ca:=fun w hR=>zM b R p n w hR hn hp hw
 unfold V8 at ca
 have CA:=Zh ca
 clear ca
 have HR:=Zh hR
 have HW:Hid (waits R p n=if (R.sub n p).ZR || (R.src n).ZG then [] else [asks R p n]):=rfl
 clear hR hw
 generalize asks R p n=A at *
 obtain ⟨a1,a2,a3,a4,a5⟩:=A
 dsimp only at CA
 cases iM:(R.sub n p).ZR
 ·rw [iM] at c1
  cases pq:(R.src n).ZG
  ·rw [pq] at s4
   have HF:Hid (waits R p n=[⟨a1,a2,a3,a4,a5⟩]):=by show _=_;rw [HW.o,iM,pq];rfl
   clear iM pq HW
   go_enter Tryz.func141,Tryz.ntmps141
   go_wp2_with (go_at_call 166;refine (CA.o _ HR.o).mono ?_;rintro e w1 ⟨rfl,YZ⟩)
   go_ret
   refine ⟨⟨_,rfl,?_⟩,YZ.alloc (by simp [YZ.size]) _⟩
   rw [HF.o]
   exact LM w1 _ 1 _ Zd
  ·rw [pq] at s4
   have HF:Hid (waits R p n=[]):=by show _=_;rw [HW.o,iM,pq];rfl
   clear iM pq HW
   exact gP
 ·rw [iM] at c1
  have HF:Hid (waits R p n=[]):=by show _=_;rw [HW.o,iM];rfl
  clear iM HW
  exact gP
theorem index_hit {l:List Int} {x:Int} {k:Nat} (hk:k<l.length) (h:l.getD k 0=x) (hn:∀ j,j<k→l.getD j 0≠x):index l x=k:=by
 unfold index
 have:l.findIdx? (fun y=>y == x)=some k:=by
  rw [List.findIdx?_eq_some_iff_getElem]
  refine ⟨hk,?_,fun j hj=>?_⟩
  ·rw [Rw,U7 hk] at h
   simpa using h
  ·have:=hn j hj
   rw [Rw,U7 Zo] at this
   simpa using this
 rw [this]
theorem xh {l:List Int} {x:Int} (hn:∀ j,j<l.length→l.getD j 0≠x):index l x = -1:=by
 unfold index
 have:l.findIdx? (fun y=>y == x)=none:=by
  rw [List.findIdx?_eq_none_iff]
  intro y hy
  obtain ⟨j,hj,rfl⟩:=List.getElem_of_mem hy
  have:=hn j hj
  rw [Rw,U7 hj] at this
  simpa using this
 rw [this]
theorem D3 (v:Value) (l:List Int) (x:Int) (w:World) (hv:XU w v l.length (YO l)) :
  Calls Tryz.prog 156 #[v,.int .u32 x] w fun e w'=>e = .returned (.int .i64 (index l x))∧w=w':=by
 have hlen:=hv.len
 by_cases h0:0<l.length
 ·obtain ⟨g,off,cap,rfl,hlc,wR,hg,Yw⟩:=PN hv h0
  have HC:=Zh Yw
  have HH:=Zh (fun k hk h hn=>@index_hit l x k hk h hn)
  have HM:=Zh (@xh l x)
  clear Yw hv
  go_enter Tryz.func156,Tryz.ntmps156
  go_wp2
  go_loop [8] (fun i=>∃ k:Nat,k≤l.length∧i = .int .i64 k∧Hid (∀ j,j<k→l.getD j 0≠x)) (fun i=>l.length-(intOf i).toNat)
  case atStart=>exact ⟨0,Tw _,rfl,fun j hj=>by omega⟩
  case round=>
   obtain ⟨k,hk,rfl,KP⟩:=hrel
   by_cases VR:k<l.length
   ·have hc:=HC.o k VR
    by_cases hx:l.getD k 0=x
    ·have HF:=Zh (HH.o k VR hx KP.o)
     rw [hx] at hc
     clear hx
     go_wp2
     go_ret
     exact ⟨YW HF.o.symm,rfl⟩
    ·have hbeq:(x == l.getD k 0)=false:=by rw [WQ];exact fun e=>hx e.symm
     have HX:=Zh hx
     clear hx
     generalize hy:l.getD k 0=y at *
     have HY:=Zh hy
     clear hy
     go_wp2
     go_round
     case rel=>exact ⟨k+1,Zo,Zn,fun j hj=>by by_cases JN:j<k;exact KP.o j JN;rw [show j=k by omega,HY.o];exact HX.o⟩
     case measure=>simp [intOf];omega
   ·have HF:=Zh (HM.o (fun j hj=>KP.o j Zo))
    go_wp2
    go_ret
    exact ⟨YW HF.o.symm,rfl⟩
 ·have:l=[]:=Cc Zo
  subst this
  obtain ⟨a,cap,rfl,_⟩:=hv
  go_enter Tryz.func156,Tryz.ntmps156
  go_wp2
  go_loop [8] (fun i=>i = .int .i64 0) (fun _=>0)
  case atStart=>rfl
  case round=>
   subst hrel
   go_wp2
   go_ret
   exact ⟨rfl,rfl⟩
def V7 (R:Room):Array Value:=((List.range 45).map fun j=>WS R (9+j)).toArray
theorem RR (R:Room):(V7 R).size=45:=by simp [V7]
theorem MA (R:Room) (j:Nat) (h:j<45):(V7 R)[j]?=some (WS R (9+j)):=by simp [V7,h]
theorem LQ (R:Room) (n:Nat) (h:n<9):(V7 R).extract (n*5) (n*5+5)=(Jk (R.src n).there (R.src n).num (R.src n).own (R.src n).sv (R.src n).ZG):=by
 apply Array.ext'
 rw [Array.toList_extract]
 apply List.ext_getElem?
 intro i
 by_cases hi:i<5
 ·have:((V7 R).toList.extract (n*5) (n*5+5))[i]?=(V7 R)[n*5+i]?:=by
   rw [List.extract_eq_take_drop,List.getElem?_take_of_lt Zo,List.getElem?_drop];simp
  rw [this,MA R _ Zo,show 9+(n*5+i)=9+n*5+i by omega,Kz R h hi]
  have:i=0∨i=1∨i=2∨i=3∨i=4:=by omega
  rcases this with rfl|rfl|rfl|rfl|rfl <;> rfl
 ·rw [List.getElem?_eq_none (by rw [List.extract_eq_take_drop,Tg];omega),List.getElem?_eq_none Uq]
theorem Ka (b:Nat) (R:Room) (x:Int) (w:World) (hR:ZT w b R) :
  Calls Tryz.prog 127 (Jf (some ⟨b,0,none⟩) x) w fun e w'=>e = .returned (.tuple (Q3 (of R x).1 (of R x).2.1 (of R x).2.2))∧Below w w w':=by
 have Tz:∀ j,j<(V7 R).size→w.cell? ⟨b,9+j,none⟩=(V7 R)[j]?:=by
  intro j hj
  rw [RR] at hj
  rw [hR.cell Zo,MA R j hj]
 have UH:(Tryz.prog.info? 146).map (·.size)=some (V7 R).size:=by rw [RR];kernel_rfl
 have HP:Hid (∀ n:Nat,n<9→∀ w,(Instr.index 146 (.agg (V7 R)) (.int .i64 (n:Int))).run Tryz.prog w = .ok (.agg (Jk (R.src n).there (R.src n).num (R.src n).own (R.src n).sv (R.src n).ZG)) w):=
  fun n hn w=>vZ.MQ w 146 145 9 (V7 R) n 5 _ Tryz.underlying146 hn Tryz.underlying145 rfl ZB _ (LQ R n hn)
 have HR:=Zh hR
 have hb:=hR.lt
 have HO:Hid (of R x=Sa R x 9 0):=rfl
 have HS:Hid (∀ k n:Nat,Sa R x (k+1) n=if (R.src n).there && decide (0≤index (R.src n).ss x) then ((n:Int),index (R.src n).ss x,true) else Sa R x k (n+1)):=fun _ _=>rfl
 have HZ:Hid (∀ n:Nat,Sa R x 0 n=(0,0,false)):=fun _=>rfl
 clear hR
 generalize V7 R=CS at *
 go_enter Tryz.func127,Tryz.ntmps127
 go_wp2_with (refine vZ.S0 rfl 146 (.tmp 14) rfl b 9 rfl CS (.array 9 145) Tz Tryz.underlying146 rfl UH ?_)
 clear Tz UH
 go_loopw [16] (fun i w'=>∃ k:Nat,k≤9∧i = .int .i64 k∧Below w w w'∧Hid (of R x=Sa R x (9-k) k)) (fun i _=>9-(intOf i).toNat)
 case atStart=>exact ⟨0,Zo,rfl,YH _ _,HO.o⟩
 case round=>
  obtain ⟨k,hk,rfl,W9,hof⟩:=hrel
  by_cases UN:k<9
  ·have kZ:=HP.o k UN
   have hRr:=HR.o.below W9
   have CI:=Zh (fun (w1:World) (h:Below wr wr w1)=>D3 (R.src k).sv (R.src k).ss x w1 ((hRr.rows k UN).below h).r)
   have HE:=HS.o (8-k) k
   rw [show 8-k+1=9-k by omega] at HE
   have Fg:=Zh HE
   obtain ⟨sa,scap,Io,S9⟩:=hRr.rows k UN
   clear S9
   rw [Io] at kZ CI
   clear HE hRr Io
   generalize index (R.src k).ss x=q at *
   generalize (R.src k).ss.length=sl at *
   generalize (R.src k).num=nm at *
   generalize (R.src k).own=ow at *
   generalize (R.src k).ZG=mt at *
   by_cases ht:(R.src k).there=true∧0≤q
   ·have HF:Hid (of R x=((k:Int),q,true)):=by
     show _=_
     rw [hof.o,Fg.o,ht.1];simp [ht.2]
    obtain ⟨ht1,ht2⟩:=ht
    rw [ht1] at kZ
    clear ht1
    go_wp2_with (go_at_call 156;refine (CI.o _ (Z' _ _)).mono ?_;rintro e w1 ⟨rfl,rfl⟩)
    go_ret3
    exact ⟨by rw [HF.o];rfl,W9.trans ((Z' _ _).mono W9.size)⟩
   ·have HF:Hid (of R x=Sa R x (9-(k+1)) (k+1)):=by
     show _=_
     rw [hof.o,Fg.o,Z4 (by simpa using ht),show 8-k=9-(k+1) by omega]
    cases bn:(R.src k).there
    ·exact fZ
    ·have ht2:q<0:=by
      rw [bn] at ht;simp at ht;exact ht
     exact fZ
  ·have HF:Hid (of R x=(0,0,false)):=by
    show _=_
    rw [hof.o,show 9-k=0 by omega,HZ.o]
   go_wp2
   go_ret3
   exact ⟨by rw [HF.o];rfl,W9⟩
theorem DT (v:Value) (l:List Int) (w:World) (hv:XU w v l.length (YO l)) (hl:l.length≤1000000) :
  Calls Tryz.prog 112 #[v] w fun e w'=>(∃ v',e = .returned v'∧Row w' 66 v' l.length (YO l))∧Below w w w':=by
 obtain ⟨a,cap,rfl,S9,Ol,Pv,L5⟩:=id hv
 have HV:=Zh hv
 have HN:=Zh Pv
 clear hv L5 S9 Ol Pv
 cases a with
 | none=>
  obtain ⟨h1,h2⟩:=HN.o rfl
  have HL:Hid (l=[]):=Cc h1
  have he:=fun w=>Lib.run_eql_slice_nil (P:=Tryz.prog) w 29 66 none l.length cap 0 0 Tryz.underlying29
  clear h1 h2
  go_enter Tryz.func112,Tryz.ntmps112
  go_wp2
  go_ret
  exact ⟨⟨_,rfl,by rw [HL.o];exact Row.nil _ _⟩,YH _ _⟩
 | some a=>
  have he:=fun w=>Lib.run_eql_slice_nil (P:=Tryz.prog) w 29 66 (some a) l.length cap 0 0 Tryz.underlying29
  clear HN
  go_enter Tryz.func112,Tryz.ntmps112
  go_wp2_with (at_builtin;refine QN rfl (.tmp 5) (.tmp 6) 29 rfl w.heap.size Vu _ 0 [] rfl (SR w 66 1) _ l.length (YO l) rfl (HV.o.below (Z' _ _)) (by rw [V5];omega) (Ru l) Zo Zo Zi (fun v' w1 HO HG=>?_))
  go_ret
  have hb:=((Fr.refl w.heap.size P_ w).alloc (Zw _) (.cells #[] 66)).grown HG.o Zi (by
   intro k hk
   have hk:some w.heap.size=some k:=hk
   cases hk
   exact Zw _)
  refine ⟨⟨_,rfl,?_⟩,hb.below⟩
  have:=Row.Z6 HO.o
  rwa [QP,Jy] at this
theorem B_ (b:Nat) (R:Room) (p n:Int) (w:World) (hR:ZT w b R) :
  Calls Tryz.prog 83 (Qs (some ⟨b,0,none⟩) p n) w fun e w'=>
   e = .returned (.tuple (Qy (if Zx R p n then (Qk p n (R.sub n.toNat p.toNat).want (R.sub n.toNat p.toNat).ZR) else (Qk 0 0 0 false)) (Zx R p n)))∧Below w w w':=by
 have CP:=Zh (fun w=>Ms p 9 w)
 have CN:=Zh (fun w=>Ms n 9 w)
 have hb:=hR.lt
 have HH:Hid (Zx R p n=(VK p 9 && VK n 9 && (R.sub n.toNat p.toNat).there)):=rfl
 by_cases hp:VK p 9=true
 ·by_cases hn:VK n 9=true
  ·obtain ⟨h1,h2⟩:=(Xq p 9).1 hp
   obtain ⟨h3,h4⟩:=(Xq n 9).1 hn
   obtain ⟨p,rfl⟩:=QT (show 0≤p by omega)
   obtain ⟨n,rfl⟩:=QT (show 0≤n by omega)
   rw [Wv,Wv] at HH ⊢
   rw [hp] at CP HH
   rw [hn] at CN HH
   obtain ⟨c0,c1,c2⟩:=hR.Hx (n:=n) (p:=p) Zo Zo
   clear hp hn hR
   cases ht:(R.sub n p).there
   ·rw [ht] at c0
    have HF:Hid (Zx R p n=false):=by show _=_;rw [HH.o,ht];rfl
    rw [HF.o]
    clear ht
    exact gB
   ·rw [ht] at c0
    have HF:Hid (Zx R p n=true):=by show _=_;rw [HH.o,ht];rfl
    rw [HF.o]
    clear ht
    go_enter Tryz.func83,Tryz.ntmps83
    go_wp2_with fail
    refine (CP.o _).mono ?_
    rintro e w1 ⟨rfl,rfl⟩
    go_wp2_with fail
    refine (CN.o _).mono ?_
    rintro e w1 ⟨rfl,rfl⟩
    go_wp2_with fail
    refine VJ (v:= .tuple (Qy (Qk p n (R.sub n p).want (R.sub n p).ZR) true)) (by simp [results,Tryz.results83,go_sem]) rfl ⟨rfl,?_⟩
    repeat (first|exact YH _ _|refine Below.drew ?_|refine Below.alloc ?_ Zi _)
  ·have hn:VK n 9=false:=by simpa using hn
   have HF:Hid (Zx R p n=false):=by show _=_;rw [HH.o,hp,hn];rfl
   rw [HF.o]
   rw [hp] at CP
   rw [hn] at CN
   clear hp hn hR
   exact gB
 ·have hp:VK p 9=false:=by simpa using hp
  have HF:Hid (Zx R p n=false):=by show _=_;rw [HH.o,hp];rfl
  rw [HF.o]
  rw [hp] at CP
  clear hp hR
  go_enter Tryz.func83,Tryz.ntmps83
  go_wp2_with fail
  refine (CP.o _).mono ?_
  exact Yx75
theorem rZ (b:Nat) (R:Room) (n:Int) (w:World) (hR:ZT w b R) (h:(VK n 9 && (R.src n.toNat).there)=false) :
  Calls Tryz.prog 81 (Qj (some ⟨b,0,none⟩) n) w fun e w'=>
   e = .returned (.tuple (Qy (Qp 0 0 none 0 0 false) false))∧Below w w w':=by
 have CN:=Zh (fun w=>Ms n 9 w)
 have hb:=hR.lt
 by_cases hn:VK n 9=true
 ·obtain ⟨h3,h4⟩:=(Xq n 9).1 hn
  obtain ⟨n,rfl⟩:=QT (show 0≤n by omega)
  rw [hn,Wv,Bool.true_and] at h
  obtain ⟨s0,s1,s2,s3,s4⟩:=hR.MZ (n:=n) Zo
  rw [h] at s0
  exact Yx84
 ·have hn:VK n 9=false:=by simpa using hn
  exact Yx84
theorem wm (b:Nat) (R:Room) (n:Nat) (w:World) (hR:ZT w b R) (hn:1≤n∧n<9) (h:(R.src n).there=true) (hl:(R.src n).ss.length≤1000000) :
  Calls Tryz.prog 81 (Qj (some ⟨b,0,none⟩) n) w fun e w'=>
   (∃ v',e = .returned (.tuple (Qy #[.int .i64 (R.src n).num,.int .i64 (R.src n).own,v',.bool (R.src n).ZG] true))∧Row w' 66 v' (R.src n).ss.length (YO (R.src n).ss))∧Below w w w':=by
 have CN:=Zh (fun w=>Ms n 9 w)
 have hb:=hR.lt
 have hi:VK n 9=true:=(Xq _ _).2 Zo
 obtain ⟨s0,s1,s2,s3,s4⟩:=hR.MZ hn.2
 rw [h] at s0
 rw [hi] at CN
 have Vi:=Zh (hR.rows n hn.2)
 obtain ⟨sa,scap,Io,S9⟩:=hR.rows n hn.2
 have CC:=Zh (fun w1 (hw:Below w w w1)=>DT (R.src n).sv (R.src n).ss w1 ((hR.rows n hn.2).below hw).r hl)
 rw [Io] at s3 CC
 clear hi h hR S9 Io
 generalize (R.src n).ss=ss at *
 generalize (R.src n).num=nm at *
 generalize (R.src n).own=ow at *
 generalize (R.src n).ZG=mt at *
 go_enter Tryz.func81,Tryz.ntmps81
 go_wp2_with fail
 refine (CN.o _).mono ?_
 rintro e w1 ⟨rfl,rfl⟩
 go_wp2_with fail
 refine (CC.o _ (by repeat (first|exact YH _ _|refine Below.alloc ?_ Zi _))).mono ?_
 rintro e w1 ⟨⟨v',rfl,Z0⟩,YZ⟩
 have QW:=Zh Z0
 obtain ⟨a',cap',rfl,S9⟩:=Z0
 obtain ⟨Mp,KN⟩:=S3 YZ
 have hz:w.heap.size+1<w1.heap.size:=by have:=YZ.size;simp at this;omega
 have HB:=Zh YZ
 have r0:=Mp w.heap.size 0 Uq
 have r1:=Mp w.heap.size 1 Uq
 have r2:=Mp w.heap.size 2 Uq
 have r3:=Mp w.heap.size 3 Uq
 simp at r0 r1 r2 r3
 clear S9 YZ
 go_wp2_with fail
 refine VJ (v:= .tuple (Qy (Qp nm ow a' ss.length cap' mt) true)) (by simp [results,Tryz.results81,go_sem,r0,r1,r2,r3]) rfl ⟨⟨_,rfl,?_⟩,?_⟩
 ·refine QW.o.fr (B:=w1.heap.size) (S:=fun k=>w.heap.size≤k∧k<w.heap.size+2) ?_ (Zw _) ?_
  ·repeat (refine Fr.setCell ?_ (Wi Zi) _)
   exact Fr.refl _ _ _
  ·intro k c fr hk
   rw [HB.o.block k Uq]
   obtain ⟨n1,n2⟩:=V9 w (.cells (Qp 0 0 none 0 0 false) 108) (.cells (Qp nm ow sa ss.length scap mt) 108)
   have:k=w.heap.size∨k=w.heap.size+1:=by omega
   rcases this with rfl|rfl
   ·rw [n1];exact Ux Zd
   ·rw [n2];exact Ux Zd
 ·repeat (refine Below.setCell ?_ Zi _)
  exact ((Z' _ _).trans ((Z' _ _).mono Zi)).trans (HB.o.mono Uq)
end Go.Proofs.Rm
namespace Go.Proofs.Rm
open Go.RowKit Go.Proofs.Heap Go.Proofs.Mem
theorem Zy {base:Nat} {e:TypeId} {size:Nat} {v:Value} {n:Nat} {xs:List Value} {w w':World} (h:w.ownsRow base e size v n xs) (hb:Below w w w'):w'.ownsRow base e size v n xs:=by
 obtain ⟨h1,h2⟩:=h
 refine ⟨h1,?_⟩
 rcases h2 with h2|⟨g,cap,cur,hv,hg,hh,r⟩
 ·exact Ww h2
 ·have Po:g<w.heap.size:=by
   rcases Nat.lt_or_ge g w.heap.size with h|h
   ·exact h
   ·rw [Fm h] at hh;cases hh
  exact Wi ⟨g,cap,cur,hv,hg,by rw [hb.block g Po];exact hh,r⟩
def SY (R:Room) (n:Int) (k:Nat):List Nat:=(List.range k).filter fun p=>Zx R p n
theorem Bg (R:Room) (n:Int) (k:Nat):SY R n (k+1)=SY R n k++if Zx R k n then [k] else []:=by
 unfold SY
 rw [ru,List.filter_append]
 congr 1
 cases h:Zx R k n <;> simp [h]
theorem Hy (R:Room) (n:Int) (k:Nat):(SY R n k).length≤k:=by
 have:=List.length_filter_le (fun p:Nat=>Zx R p n) (List.range k)
 rw [List.length_range] at this
 exact this
theorem JS (a b:List Nat):ints (a++b)=ints a++ints b:=N7
theorem YL {base:Nat} {e:TypeId} {size:Nat} {v:Value} {n:Nat} {xs:List Value} {w:World} (h:w.ownsRow base e size v n xs):∀ k,v.ownBlock=some k→base≤k:=by
 intro k hk
 obtain ⟨_,h⟩:=h
 rcases h with ⟨rfl,_⟩|⟨g,cap,cur,rfl,hg,_⟩
 ·cases hk
 ·have hk:some g=some k:=hk
  cases hk;exact hg
theorem Gq (b:Nat) (R:Room) (n:Int) (w:World) (hR:ZT w b R) :
  Calls Tryz.prog 82 (Qj (some ⟨b,0,none⟩) n) w fun e w'=>(∃ v,e = .returned v∧Row w' 3 v (Z5 R n).length (ints (Z5 R n)))∧Below w w w':=by
 have HR:=Zh hR
 have hb:=hR.lt
 have HS:Hid (Z5 R n=SY R n 9):=rfl
 clear hR
 go_enter Tryz.func82,Tryz.ntmps82
 go_wp2
 go_loopw [5,9] (fun v i w'=>∃ k:Nat,k≤9∧i = .int .i64 k∧Below w w w'∧w'.ownsRow w 3 1 v (SY R n k).length (ints (SY R n k))) (fun _ i _=>9-(intOf i).toNat)
 case atStart=>exact ⟨0,Zo,rfl,YH _ _,Ua _ _ _ _⟩
 case round=>
  obtain ⟨k,hk,rfl,W9,YJ⟩:=hrel
  have Yl:=Zh YJ
  clear YJ
  by_cases UN:k<9
  ·have cs:=B_ b R k n wr (HR.o.below W9)
   have jz:=Zh (Bg R n k)
   have I5:=Hy R n k
   cases hh:Zx R k n
   ·rw [hh,Z4 Zd] at cs
    have CS:=Zh cs
    clear cs
    have HF:Hid (SY R n (k+1)=SY R n k):=by show _=_;rw [jz.o,hh];simp
    clear hh
    go_wp2_with (go_at_call 83;refine CS.o.mono ?_;rintro e w1 ⟨rfl,YZ⟩)
    go_roundw
    case rel=>
     refine ⟨k+1,Zo,Zn,(W9.trans (YZ.mono W9.size)).alloc (PW W9.size YZ.size) _,?_⟩
     rw [HF.o]
     exact (Zy Yl.o YZ).alloc _
    case measure=>simp [intOf];omega
   ·rw [hh,ZQ rfl,Wv] at cs
    generalize (R.sub n.toNat k).want=wa at cs
    generalize (R.sub n.toNat k).ZR=pa at cs
    have CS:=Zh cs
    clear cs
    have HF:Hid (SY R n (k+1)=SY R n k++[k]):=by show _=_;rw [jz.o,hh];simp
    clear hh
    go_wp2_with (first|(go_at_call 83;refine CS.o.mono ?_;rintro e w1 ⟨rfl,YZ⟩)|(at_builtin;refine YV rfl (.tmp 20) (.tmp 22) 72 rfl w.heap.size Xd _ (SY R n k).length (ints (SY R n k)) rfl ?a1 _ 1 [.int .i64 k] rfl ?a2 rfl ?a4 ?a5 ?a6 ?a7 (fun v' w2 NV HG=>?_)))
    case a1=>exact ((Zy Yl.o YZ).alloc _).alloc _
    case a2=>exact Yu _ _ 1 _ [.int .i64 k] Zd Zi
    case a4=>intro u hu;simp at hu;subst hu;rfl
    case a5=>omega
    case a6=>omega
    case a7=>have h1:=W9.size;have h2:=YZ.size;simp;omega
    go_roundw
    case rel=>
     refine ⟨k+1,Zo,Zn,?_,?_⟩
     ·have h1:=W9.trans (YZ.mono W9.size)
      have h2:=h1.alloc h1.size (.cells (Qk k n wa pa) 105)
      have h3:=h2.alloc h2.size (.cells #[.int .i64 k] 3)
      exact h3.grown HG.o h3.size (YL Yl.o)
     ·rw [HF.o,UM,JS]
      exact NV.o
    case measure=>simp [intOf];omega
  ·have iD:k=9:=by omega
   subst iD
   go_wp2
   go_ret
   exact ⟨⟨_,rfl,by rw [HS.o];exact Row.Z6 Yl.o⟩,W9⟩
theorem Row.grown {w w':World} {e:TypeId} {v:Value} {n:Nat} {xs:List Value} (h:Row w e v n xs) {base:Nat} {e2:TypeId} {size:Nat} {vo:Value} {m:Nat} {ys:List Value} (ho:w.ownsRow base e2 size vo m ys) (hg:w.grownBy w' vo.ownBlock) (WM:e≠e2):Row w' e v n xs:=by
 refine h.fr (B:=w.heap.size) (S:=fun k=>vo.ownBlock=some k) ⟨hg.os,hg.tape,hg.output,hg.size,fun k hk hs=>hg.block k hk (fun e=>hs e.symm)⟩ (Zw _) ?_
 intro k c fr hk he
 obtain ⟨_,ho⟩:=ho
 rcases ho with ⟨rfl,_⟩|⟨g,cap,cur,rfl,_,hh,_⟩
 ·cases hk
 ·have hk:some g=some k:=hk
  cases hk
  rw [hh] at he
  exact Ux (fun h=>WM h.symm) he
theorem ZT.grown {w w':World} {b:Nat} {R:Room} (h:ZT w b R) {base:Nat} {e2:TypeId} {size:Nat} {vo:Value} {m:Nat} {ys:List Value} (ho:w.ownsRow base e2 size vo m ys) (hg:w.grownBy w' vo.ownBlock) (hb:b<base) (WM:66≠e2):ZT w' b R:=by
 refine ⟨?_,fun n hn=>Row.grown (h.rows n hn) ho hg WM⟩
 obtain ⟨c,hc,hs,UE⟩:=h.cells
 refine ⟨c,?_,hs,UE⟩
 rw [hg.block b h.lt (fun e=>by have:=YL ho b e.symm;omega)]
 exact hc
theorem WJ {base:Nat} {e:TypeId} {size:Nat} {v:Value} {n:Nat} {xs:List Value} {w w':World} {S:Nat→Prop} (h:w.ownsRow base e size v n xs) (hf:Fr w S w w') (hS:∀ k,S k→k<base):w'.ownsRow base e size v n xs:=by
 obtain ⟨h1,h2⟩:=h
 refine ⟨h1,?_⟩
 rcases h2 with h2|⟨g,cap,cur,hv,hg,hh,r⟩
 ·exact Ww h2
 ·have Po:g<w.heap.size:=by
   rcases Nat.lt_or_ge g w.heap.size with h|h
   ·exact h
   ·rw [Fm h] at hh;cases hh
  exact Wi ⟨g,cap,cur,hv,hg,by rw [hf.block g Po (fun hs=>by have:=hS g hs;omega)];exact hh,r⟩
theorem ZT.F8 {w:World} {b:Nat} {R:Room} (h:ZT w b R) {e:TypeId} (he:e≠152):∀ k c fr,k=b→w.heap[k]?≠some (.cells c e fr):=by
 intro k c fr hk
 subst hk
 obtain ⟨c',hc,_,_⟩:=h.cells
 rw [hc]
 exact Ux (fun h=>he h.symm)
theorem SX (R:Room) (n:Nat) (x:Src):(R.Y6 n x).src n=x:=by simp [Room.Y6]
theorem SE (R:Room) (n:Nat) (x y:Src):(R.Y6 n x).Y6 n y=R.Y6 n y:=by
 unfold Room.Y6
 congr 1
 funext m
 dsimp only
 split <;> rfl
theorem ZT.TP {w:World} {b:Nat} {R:Room} (h:ZT w b R) {n i:Nat} (hn:n<9) (hi:i<5) {x:Src} {v:Value} (hx:∀ j,j<5→Nl x j=if j=i then v else Nl (R.src n) j)
  (Z0:Row w 66 x.sv x.ss.length (YO x.ss)):ZT (w.setCell ⟨b,9+n*5+i,none⟩ v) b (R.Y6 n x):=by
 refine h.set Zo (fun j hj=>?_) (fun m hm=>?_)
 ·by_cases h1:j<9∨54≤j
  ·unfold WS
   rw [Z4 (by omega:¬j=9+n*5+i)]
   by_cases h2:j<9
   ·rw [ZQ h2,ZQ h2];rfl
   ·rw [Z4 h2,Z4 h2,Z4 Zo,Z4 Zo];rfl
  ·unfold WS
   rw [Z4 (by omega:¬j<9),ZQ (by omega:j<54),Z4 (by omega:¬j<9),ZQ (by omega:j<54)]
   by_cases h3:(j-9) / 5=n
   ·have e:(R.Y6 n x).src ((j-9) / 5)=x:=by simp [Room.Y6,h3]
    rw [e,h3,hx _ Zo]
    have:((j-9) % 5=i)↔(j=9+n*5+i):=by omega
    by_cases h4:(j-9) % 5=i
    ·rw [ZQ h4,ZQ (this.1 h4)]
    ·rw [Z4 h4,Z4 (fun e=>h4 (this.2 e))]
   ·have e:(R.Y6 n x).src ((j-9) / 5)=R.src ((j-9) / 5):=by simp [Room.Y6,h3]
    rw [e,Z4 Zo]
 ·by_cases hmn:m=n
  ·subst hmn;rw [SX];exact Z0
  ·have e:(R.Y6 n x).src m=R.src m:=by simp [Room.Y6,hmn]
   rw [e];exact h.rows m hm
theorem ZT.Y6 {w:World} {b:Nat} {R:Room} (h:ZT w b R) {n:Nat} (hn:n<9) (x:Src) (Z0:Row w 66 x.sv x.ss.length (YO x.ss)) :
  ZT (((((w.setCell ⟨b,9+n*5,none⟩ (.bool x.there)).setCell ⟨b,9+n*5+1,none⟩ (.int .i64 x.num)).setCell ⟨b,9+n*5+2,none⟩ (.int .i64 x.own)).setCell ⟨b,9+n*5+3,none⟩ x.sv).setCell ⟨b,9+n*5+4,none⟩ (.bool x.ZG)) b (R.Y6 n x):=by
 have ho:=h.other
 obtain ⟨c,hc,_,_⟩:=h.cells
 have r1:=h.rows n hn
 have c5:∀ j,j<5→(j=0∨j=1∨j=2∨j=3∨j=4):=by intro j hj;omega
 have h1:=h.TP hn (i:=0) Zo (x:={R.src n with there:=x.there}) (v:= .bool x.there) (by intro j hj;rcases c5 j hj with rfl|rfl|rfl|rfl|rfl <;> rfl) r1
 have h2:=h1.TP hn (i:=1) Zo (x:={R.src n with there:=x.there,num:=x.num}) (v:= .int .i64 x.num) jI (by have:=h1.rows n hn;rw [SX] at this;exact this)
 have h3:=h2.TP hn (i:=2) Zo (x:={R.src n with there:=x.there,num:=x.num,own:=x.own}) (v:= .int .i64 x.own) jI (by have:=h2.rows n hn;rw [SX] at this;exact this)
 have hrow3:Row (((w.setCell ⟨b,9+n*5,none⟩ (.bool x.there)).setCell ⟨b,9+n*5+1,none⟩ (.int .i64 x.num)).setCell ⟨b,9+n*5+2,none⟩ (.int .i64 x.own)) 66 x.sv x.ss.length (YO x.ss):=
  Z0.fr ((((Fr.refl w.heap.size (· = b) w).setAt _ _).setAt _ _).setAt _ _) (Zw _) ho
 have h4:=h3.TP hn (i:=3) Zo (x:={R.src n with there:=x.there,num:=x.num,own:=x.own,sv:=x.sv,ss:=x.ss}) (v:=x.sv) jI hrow3
 have h5:=h4.TP hn (i:=4) Zo (x:=x) (v:= .bool x.ZG) jI (by have:=h4.rows n hn;rw [SX] at this;exact this)
 rw [SE,SE,SE,SE] at h5
 exact h5
theorem JI (n:Nat) (p:Nat):∀ (l:List Nat) (R:Room),Xp n (l++[p]) R=((Xp n l R).1++[⟨3,p,n,0,0⟩,⟨2,p,n,0,0⟩],(Xp n l R).2.ZP n p Ve)
 | [],R=>rfl
 | q :: l,R=>by
  simp only [List.cons_append,Xp]
  rw [JI n p l]
theorem Mk (n:Nat):∀ (l:List Nat) (R:Room),(Xp n l R).1.length=2*l.length
 | [],R=>rfl
 | q :: l,R=>by
  simp only [Xp,List.length_cons,Mk n l];omega
theorem FU (t:YD):(Z9 t).length=5:=rfl
theorem Yc (l:List YD):∀ u∈l.flatMap Z9,u.oneCell'=true:=by
 intro u hu
 obtain ⟨t,_,hu⟩:=List.mem_flatMap.1 hu
 simp only [Z9,Mg,List.mem_nil_iff,or_false] at hu
 rcases hu with rfl|rfl|rfl|rfl|rfl <;> rfl
theorem VZ (l:List YD):(l.flatMap Z9).length=l.length*5:=XK _ 5 FU l
theorem Ti {w:World} {v:Value} {l:List Nat} (h:Row w 3 v l.length (ints l)) (hl:0<l.length):∃ g off cap,v = .slice (some ⟨g,off,none⟩) l.length cap∧g<w.heap.size∧∀ j,j<l.length→w.cell? ⟨g,off+j,none⟩=some (.int .i64 (l.getD j 0:Nat)):=by
 have iC:(ints l).length=l.length:=Tx _
 obtain ⟨g,off,cap,h1,_,_,h4,h5⟩:=h.open (by rw [iC];exact hl)
 refine ⟨g,off,cap,h1,h4,fun j hj=>?_⟩
 rw [h5 j (by rw [iC];exact hj),Rw,U7 hj]
 simp [ints,hj]
theorem Hz {R:Room} {n:Int} {j:Nat} (h:j<(Z5 R n).length):(Z5 R n).getD j 0<9:=by
 rw [Rw,U7 h]
 have:=Ot h
 have:=(aN.1 this).1
 simpa using this
theorem PJ (R:Room) (n:Int):(Z5 R n).length≤9:=Hy R n 9
theorem E8 {l:List Nat} {k:Nat} (h:k<l.length):l.take (k+1)=l.take k++[l.getD k 0]:=by
 rw [List.take_succ_eq_append_getElem h,Rw,U7 h];rfl
theorem GL (b:Nat) (R:Room) (n:Nat) (w:World) (hR:ZT w b R) (hn:n<9) :
  Calls Tryz.prog 137 (Qj (some ⟨b,0,none⟩) n) w fun e w'=>(∃ v,e = .returned v∧YG w' v (gone R n).1)∧ZT w' b (gone R n).2∧Fr w (· = b) w w':=by
 have hb:=hR.lt
 have CS:=Zh (Gq b R n w hR)
 have HG0:Hid (gone R n=((Xp n (Z5 R n) R).1,(Xp n (Z5 R n) R).2.Y6 n Um)):=rfl
 have HM:Hid (∀ j,j<(Z5 R n).length→(Z5 R n).getD j 0<9):=fun j h=>Hz h
 have HL:=PJ R n
 have HR:=Zh hR
 clear hR
 generalize Z5 R n=L at *
 go_enter Tryz.func137,Tryz.ntmps137
 go_wp2_with fail
 refine CS.o.mono ?_
 rintro e w1 ⟨⟨lv,rfl,Z0⟩,YZ⟩
 have Vi:=Zh Z0
 have HB:=Zh YZ
 clear YZ
 rcases Nat.eq_zero_or_pos L.length with h0|h0
 ·obtain ⟨la,xA,rfl,hx⟩:=Z0
  clear hx
  have jo:Hid (L=[]):=Cc h0
  have XD:=Zh (HR.o.below HB.o)
  obtain ⟨s0,s1,s2,s3,s4⟩:=XD.o.MZ hn
  have f0:=XD.o.YC (9+n*5)
  have f1:=XD.o.YC (9+n*5+1)
  have f2:=XD.o.YC (9+n*5+2)
  have f3:=XD.o.YC (9+n*5+3)
  have f4:=XD.o.YC (9+n*5+4)
  go_wp2_with fail
  go_loopw [5,12] (fun v i w'=>v = .slice none 0 0∧i = .int .i64 0∧w'=w1) (fun _ _ _=>0)
  case atStart=>exact ⟨rfl,rfl,rfl⟩
  case round=>
   obtain ⟨rfl,rfl,rfl⟩:=hrel
   go_wp2
   go_ret
   rw [HG0.o,jo.o]
   refine ⟨⟨_,rfl,?_⟩,XD.o.Y6 hn Um (Row.nil _ _),((((((Fr.Z8 _ HB.o).setAt _ _).setAt _ _).setAt _ _).setAt _ _).setAt _ _)⟩
   exact Row.nil _ _
 ·obtain ⟨g,off,cap,rfl,hg,Yw⟩:=Ti Z0 h0
  have HC:=Zh Yw
  clear Z0 Yw
  go_wp2_with fail
  go_loopw [5,12] (fun v i w'=>∃ k:Nat,k≤L.length∧i = .int .i64 k∧Fr w (· = b) w w'∧Row w' 3 (.slice (some ⟨g,off,none⟩) L.length cap) L.length (ints L)∧ZT w' b (Xp n (L.take k) R).2∧w'.ownsRow w 158 5 v (Xp n (L.take k) R).1.length ((Xp n (L.take k) R).1.flatMap Z9)) (fun _ i _=>L.length-(intOf i).toNat)
  case atStart=>exact ⟨0,Zo,rfl,Fr.Z8 _ HB.o,Vi.o,HR.o.below HB.o,Ua _ _ _ _⟩
  case round=>
   obtain ⟨k,hk,rfl,Wx,Z0,Xt,YJ⟩:=hrel
   have Uh:=Zh Wx
   have QW:=Zh Z0
   have XD:=Zh Xt
   have Yl:=Zh YJ
   clear Wx YJ Xt
   by_cases VR:k<L.length
   ·obtain ⟨g',off',cap',e1,hg',Yw⟩:=Ti Z0 h0
    cases e1
    have hc:=Yw k VR
    have hp:=HM.o k VR
    have HT:=Zh (E8 VR)
    have BN:=Mk n (L.take k) R
    rw [Tg] at BN
    clear Yw Z0
    generalize L.getD k 0=p at *
    have HS:=Zh (JI n p (L.take k) R)
    have CE:=Zh (Cq b (Xp n (L.take k) R).2 p n wr XD.o hn hp)
    generalize Xp n (L.take k) R=G at *
    go_wp2_with (first|(go_at_call 139;refine CE.o.mono ?_;rintro e w2 ⟨rfl,Re,Sm⟩;have Ma:=Zh Re;have Ud:=Zh Sm;clear Re Sm)|(at_builtin;refine YV rfl (.tmp 16) (.tmp 24) 98 rfl w.heap.size XP _ G.1.length (G.1.flatMap Z9) rfl ?a1 _ 2 ([⟨3,p,n,0,0⟩,⟨2,p,n,0,0⟩].flatMap Z9) rfl ?a2 rfl ?a4 ?a5 ?a6 ?a7 (fun v' w3 HO HG=>?_)))
    case a1=>exact (WJ Yl.o Ud.o (fun k hk=>by omega)).alloc _
    case a2=>exact Yu _ _ 2 _ ([⟨3,p,n,0,0⟩,⟨2,p,n,0,0⟩].flatMap Z9) Zd rfl
    case a4=>exact Yc _
    case a5=>omega
    case a6=>omega
    case a7=>have h1:=Uh.o.size;have h2:=Ud.o.size;simp;omega
    go_roundw
    case rel=>
     have h1:=Uh.o.size
     have h2:=Ud.o.size
     have Sn:=(WJ Yl.o Ud.o (fun k hk=>by omega)).alloc (.cells ([⟨3,p,n,0,0⟩,⟨2,p,n,0,0⟩].flatMap Z9).toArray 158)
     have W9:=Z' w2 (.cells ([⟨3,p,n,0,0⟩,⟨2,p,n,0,0⟩].flatMap Z9).toArray 158)
     refine ⟨k+1,Zo,Zn,?_,?_,?_,?_⟩
     ·exact nO
     ·exact Row.grown ((QW.o.fr Ud.o (Zw _) (XD.o.F8 Zd)).below W9) Sn HG.o Zd
     ·rw [HT.o,HS.o]
      exact ZT.grown (Ma.o.below W9) Sn HG.o hb Zd
     ·rw [HT.o,HS.o]
      dsimp only
      rw [UM,O_]
      exact HO.o
    case measure=>simp [intOf];omega
   ·have ed:k=L.length:=by omega
    have hT:L.take k=L:=by rw [ed,nZ]
    rw [hT] at XD Yl
    obtain ⟨s0,s1,s2,s3,s4⟩:=XD.o.MZ hn
    have f0:=XD.o.YC (9+n*5)
    have f1:=XD.o.YC (9+n*5+1)
    have f2:=XD.o.YC (9+n*5+2)
    have f3:=XD.o.YC (9+n*5+3)
    have f4:=XD.o.YC (9+n*5+4)
    clear hT Z0
    generalize Xp n L R=G at *
    go_wp2
    go_ret
    rw [HG0.o]
    exact ⟨⟨_,rfl,(Row.Z6 Yl.o).fr (((((((Fr.refl wr.heap.size (· = b) wr).setAt _ _).setAt _ _).setAt _ _).setAt _ _).setAt _ _)) (Zw _) (XD.o.F8 Zd)⟩,XD.o.Y6 hn Um (Row.nil _ _),(((((Uh.o.setAt _ _).setAt _ _).setAt _ _).setAt _ _).setAt _ _)⟩
end Go.Proofs.Rm
namespace Go.Proofs.Rm
open Go.RowKit Go.Proofs.Heap Go.Proofs.Mem
theorem below_drewN {B:Nat} {a w:World} (h:Below B a w):∀ q,Below B a (w.drewN q)
 | 0=>h
 | q+1=>(below_drewN h q).drew
theorem EE (b:Nat) (R:Room) (o:Op) (sa ba:Option Addr) (sl sc bl bc:Nat) (w:World) (hR:ZT w b R) (hs:1≤o.source∧o.source<9) :
  Calls Tryz.prog 164 (Qi (some ⟨b,0,none⟩) (Jm o sa sl sc ba bl bc)) w fun e w'=>e = .returned (.int .i64 (ZF R o))∧Below w w w':=by
 obtain ⟨k,p,n,q,nm,ss⟩:=o
 obtain ⟨n,rfl⟩:=QT (show 0≤n by have:=hs.1;dsimp only at this;omega)
 have hn:n<9:=by have:=hs.2;dsimp only at this;omega
 obtain ⟨s0,s1,s2,s3,s4⟩:=hR.MZ hn
 have hb:=hR.lt
 have HL:Hid (ZF R ⟨k,p,n,q,nm,ss⟩=if q<0∨((R.src n).ss.length:Int)≤q then 5 else 0):=rfl
 have hlen:=(hR.rows n hn).len
 obtain ⟨va,vc,Io,hx⟩:=hR.rows n hn
 rw [Io] at s3
 clear hR hs hx Io
 generalize (R.src n).ss.length=L at *
 dsimp only
 by_cases h1:q<0
 ·have HF:Hid (ZF R ⟨k,p,n,q,nm,ss⟩=5):=by show _=_;rw [HL.o,ZQ (Ww h1)]
  exact cK
 ·by_cases h2:(L:Int)≤q
  ·have HF:Hid (ZF R ⟨k,p,n,q,nm,ss⟩=5):=by show _=_;rw [HL.o,ZQ (Wi h2)]
   have hd1:decide (q<0)=false:=WB h1
   have rz:decide ((L:Int)≤q)=true:=We h2
   exact cK
  ·have HF:Hid (ZF R ⟨k,p,n,q,nm,ss⟩=0):=by show _=_;rw [HL.o,Z4 Zo]
   have hd1:decide (q<0)=false:=WB h1
   have rz:decide ((L:Int)≤q)=false:=WB h2
   exact cK
theorem sV (b:Nat) (R:Room) (o:Op) (sa ba:Option Addr) (sl sc bl bc:Nat) (w:World) (hR:ZT w b R) (hs:1≤o.source∧o.source<9) (hp:1≤o.peer∧o.peer<9) :
  Calls Tryz.prog 165 (Qi (some ⟨b,0,none⟩) (Jm o sa sl sc ba bl bc)) w fun e w'=>e = .returned (.int .i64 (heard R o))∧Below w w w':=by
 have CL:=Zh (fun (w1:World) (h:Below w w w1)=>EE b R o sa ba sl sc bl bc w1 (hR.below h) hs)
 obtain ⟨k,p,n,q,nm,ss⟩:=o
 obtain ⟨n,rfl⟩:=QT (show 0≤n by have:=hs.1;dsimp only at this;omega)
 obtain ⟨p,rfl⟩:=QT (show 0≤p by have:=hp.1;dsimp only at this;omega)
 have hn:n<9:=by have:=hs.2;dsimp only at this;omega
 have L4:p<9:=by have:=hp.2;dsimp only at this;omega
 obtain ⟨c0,c1,c2⟩:=hR.Hx hn L4
 have hb:=hR.lt
 have HL:Hid (heard R ⟨k,p,n,q,nm,ss⟩=(let x:=R.sub n p
   if !x.there then 8 else if k=10∧x.ZR=true then 9 else if k=11∧x.ZR=false then 11 else if k≠12 then 0
   else if ZF R ⟨k,p,n,q,nm,ss⟩≠0 then ZF R ⟨k,p,n,q,nm,ss⟩ else if x.want=q then 9 else 0)):=rfl
 clear hR hs hp
 dsimp only at CL HL ⊢
 generalize ZF R ⟨k,p,n,q,nm,ss⟩=ly at *
 generalize heard R ⟨k,p,n,q,nm,ss⟩=hd at *
 generalize (R.sub n p).there=t0 at *
 generalize (R.sub n p).ZR=t1 at *
 generalize (R.sub n p).want=t2 at *
 go_enter Tryz.func165,Tryz.ntmps165
 go_wp2
 go_region
 go_wp2_with (go_at_call 164;refine (CL.o _ wz).mono ?_;rintro e w1 ⟨rfl,YZ⟩;obtain ⟨Mp,KN⟩:=S3 YZ)
 all_goals (go_ret;refine ⟨YW ?_,?_⟩)
 all_goals try (refine Below.trans ?_ (YZ.mono Uq))
 all_goals try (refine Below.drew ?_)
 all_goals try (refine Below.alloc (Below.alloc (YH _ _) (Zw _) _) Zi _)
 all_goals (rw [HL.o];first|(simp [*];done)|(simp_all;done)|skip)
end Go.Proofs.Rm
namespace Go.Proofs.Rm
open Go.RowKit Go.Proofs.Heap Go.Proofs.Mem
theorem sA (b:Nat) (R:Room) (o:Op) (sa ba:Option Addr) (sl sc bl bc:Nat) (w:World) (hR:ZT w b R) (hs:1≤o.source∧o.source<9) (hp:1≤o.peer∧o.peer<9) :
  Calls Tryz.prog 135 (Qi (some ⟨b,0,none⟩) (Jm o sa sl sc ba bl bc)) w fun e w'=>e = .returned (.int .i64 (about R o))∧Below w w w':=by
 have CL:=Zh (fun (w1:World) (h:Below w w w1)=>EE b R o sa ba sl sc bl bc w1 (hR.below h) hs)
 have CH:=Zh (fun (w1:World) (h:Below w w w1)=>sV b R o sa ba sl sc bl bc w1 (hR.below h) hs hp)
 obtain ⟨k,p,n,q,nm,ss⟩:=o
 obtain ⟨n,rfl⟩:=QT (show 0≤n by have:=hs.1;dsimp only at this;omega)
 obtain ⟨p,rfl⟩:=QT (show 0≤p by have:=hp.1;dsimp only at this;omega)
 have hn:n<9:=by have:=hs.2;dsimp only at this;omega
 have L4:p<9:=by have:=hp.2;dsimp only at this;omega
 obtain ⟨c0,c1,c2⟩:=hR.Hx hn L4
 obtain ⟨s0,s1,s2,s3,s4⟩:=hR.MZ hn
 have hb:=hR.lt
 have HL:Hid (about R ⟨k,p,n,q,nm,ss⟩=(if k=5∨k=8∨k=9 then
   (if (R.src n).own≠p then 10 else if k=8∧(R.src n).ZG=true then 9 else if k=9∧(R.src n).ZG=false then 11 else 0)
  else if k=6 then (if (R.src n).own=p then 10 else if (R.sub n p).there then 9 else ZF R ⟨k,p,n,q,nm,ss⟩)
  else heard R ⟨k,p,n,q,nm,ss⟩)):=rfl
 obtain ⟨va,vc,Io,hx⟩:=hR.rows n hn
 rw [Io] at s3
 clear hR hs hp Io hx
 dsimp only at CL CH HL ⊢
 generalize ZF R ⟨k,p,n,q,nm,ss⟩=ly at *
 generalize heard R ⟨k,p,n,q,nm,ss⟩=hd at *
 generalize about R ⟨k,p,n,q,nm,ss⟩=ab at *
 generalize (R.sub n p).there=t0 at *
 generalize (R.src n).there=u0 at *
 generalize (R.src n).num=u1 at *
 generalize (R.src n).own=u2 at *
 generalize (R.src n).ZG=u4 at *
 generalize (R.src n).ss.length=vl at *
 go_enter Tryz.func135,Tryz.ntmps135
 go_wp2
 go_region
 go_wp2_with (first|(go_at_call 164;refine (CL.o _ wz).mono ?_;rintro e w1 ⟨rfl,YZ⟩)|(go_at_call 165;refine (CH.o _ wz).mono ?_;rintro e w1 ⟨rfl,YZ⟩))
 all_goals try (go_region;go_wp2_with (first|(go_at_call 164;refine (CL.o _ wz).mono ?_;rintro e w1 ⟨rfl,YZ⟩)|(go_at_call 165;refine (CH.o _ wz).mono ?_;rintro e w1 ⟨rfl,YZ⟩)))
 all_goals (go_ret;refine ⟨YW ?_,?_⟩)
 all_goals try (refine Below.trans ?_ (YZ.mono Uq))
 all_goals try (refine Below.drew ?_)
 all_goals try (refine Below.drew ?_)
 all_goals try (refine Below.alloc (Below.alloc (YH _ _) (Zw _) _) Zi _)
 all_goals try (rw [HL.o];first|(simp [*];done)|(simp_all;done)|skip)
 go_goals
theorem tG {l:List Int} {x:Int}:decide (0≤index l x)=l.contains x:=by
 unfold index
 cases h:l.findIdx? (fun y=>y == x) with
 | none=>
  have:=List.findIdx?_eq_none_iff.1 h
  have hx:l.contains x=false:=by
   rw [K4];intro hc
   have:=this x (by simpa using hc)
   simp at this
  rw [hx];rfl
 | some i=>
  have hx:l.contains x=true:=by
   obtain ⟨hi,h1,_⟩:=List.findIdx?_eq_some_iff_getElem.1 h
   have:l[i]=x:=by simpa using h1
   rw [List.contains_iff_mem,←this];exact Ot hi
  rw [hx];simp
theorem BI (v:Value) (l:List Int) (x:Int) (w:World) (hv:XU w v l.length (YO l)) :
  Calls Tryz.prog 163 #[v,.int .u32 x] w fun e w'=>e = .returned (.bool (l.contains x))∧w=w':=by
 have CI:=Zh (D3 v l x w hv)
 have HN:Hid (decide (0≤index l x)=l.contains x):=tG
 clear hv
 generalize index l x=q at *
 go_enter Tryz.func163,Tryz.ntmps163
 go_wp2_with (go_at_call 156;refine CI.o.mono ?_;rintro e w1 ⟨rfl,rfl⟩)
 all_goals go_ret
 all_goals exact ⟨Xy (by rw [←HN.o]),rfl⟩
theorem qO {w:World} {g off n cap:Nat} {l:List Int} (h:XU w (.slice (some ⟨g,off,none⟩) n cap) l.length (YO l)) (k:Nat) (hk:k≤l.length):XU w (.slice (some ⟨g,off,none⟩) k cap) (l.take k).length (YO (l.take k)):=by
 obtain ⟨a,cap',hv,h1,h2,h3,h4⟩:=h
 injection hv with ha hn hc
 subst hc
 have hl:(l.take k).length=k:=by rw [Tg];omega
 refine ⟨some ⟨g,off,none⟩,cap,by rw [hl],by rw [hl];omega,h2,(fun h=>by cases h),?_⟩
 by_cases hz:k=0
 ·subst hz;exact Ww rfl
 ·rcases h4 with h4|⟨b,o,N8,Po,Sg⟩
  ·have:(YO l).length=0:=by rw [h4];rfl
   rw [V5] at this;omega
  ·refine Wi ⟨b,o,by rw [ha,N8],Po,fun j hj=>?_⟩
   rw [V5,hl] at hj
   rw [Sg j (by rw [V5];omega)]
   simp [YO,List.getElem?_take_of_lt hj]
theorem Bn (R:Room) (l:List Int) (k:Nat):VA R l k=((of R (l.getD k 0)).2.2 || (l.take k).contains (l.getD k 0)):=rfl
theorem FL (b:Nat) (R:Room) (o:Op) (sa ba:Option Addr) (sc bl bc:Nat) (w:World) (hR:ZT w b R) (hs:1≤o.source∧o.source<9)
  (Z0:XU w (.slice sa o.ZK.length sc) o.ZK.length (YO o.ZK)) :
  Calls Tryz.prog 134 (Qi (some ⟨b,0,none⟩) (Jm o sa o.ZK.length sc ba bl bc)) w fun e w'=>e = .returned (.int .i64 (VY R o))∧Below w w w':=by
 have CO:=Zh (fun (w1:World) (x:Int) (h:Below w w w1)=>Ka b R x w1 (hR.below h))
 obtain ⟨kd,p,n,q,nm,ss⟩:=o
 obtain ⟨n,rfl⟩:=QT (show 0≤n by have:=hs.1;dsimp only at this;omega)
 have hn:n<9:=by have:=hs.2;dsimp only at this;omega
 obtain ⟨s0,s1,s2,s3,s4⟩:=hR.MZ hn
 have hb:=hR.lt
 have HP:Hid (VY R ⟨kd,p,n,q,nm,ss⟩=(if ss.length<1∨3<ss.length then 5 else if ss.any (fun s=>decide (s<2) || decide (3221225472≤s)) then 5 else if (R.src n).there then 9 else if (List.range ss.length).any (VA R ss) then 9 else 0)):=rfl
 dsimp only at *
 have hlen:=Z0.len
 clear hR hs s1 s2 s3 s4
 generalize VY R ⟨kd,p,n,q,nm,ss⟩=Ds at *
 generalize (R.src n).there=u0 at *
 by_cases h1:ss.length<1
 ·have HF:Hid (Ds=5):=by show _=_;rw [HP.o,ZQ (Ww h1)]
  exact gU
 by_cases h2:3<ss.length
 ·have HF:Hid (Ds=5):=by show _=_;rw [HP.o,ZQ (Wi h2)]
  exact gU
 have mZ:Hid (Ds=(if ss.any (fun s=>decide (s<2) || decide (3221225472≤s)) then 5 else if u0 then 9 else if (List.range ss.length).any (VA R ss) then 9 else 0)):=by
  show _=_;rw [HP.o,Z4 Zo]
 obtain ⟨g,off,cap,e1,_,_,hg,Yw⟩:=PN Z0 Zo
 cases e1
 have HC:=Zh Yw
 have Vi:=Zh Z0
 clear Yw Z0 HP
 go_enter Tryz.func134,Tryz.ntmps134
 go_wp2
 go_loop [25] (fun i=>∃ k:Nat,k≤ss.length∧i = .int .i64 k∧Hid (∀ j,j<k→2≤ss.getD j 0∧ss.getD j 0<3221225472)) (fun i=>ss.length-(intOf i).toNat)
 case atStart=>exact ⟨0,Tw _,rfl,fun j hj=>by omega⟩
 case round=>
  obtain ⟨k,hk,rfl,KP⟩:=hrel
  by_cases VR:k<ss.length
  ·exact Yx45
  ·have bV:Hid (Ds=if u0 then 9 else if (List.range ss.length).any (VA R ss) then 9 else 0):=by
    exact gj
   clear KP mZ
   cases u0
   ·have aB:Hid (Ds=if (List.range ss.length).any (VA R ss) then 9 else 0):=by show _=_;rw [bV.o];rfl
    clear bV
    go_wp2
    go_quiet (fail)
    go_wp2
    go_loopw [47] (fun i w'=>∃ k:Nat,k≤ss.length∧i = .int .i64 k∧Below w w w'∧w.heap.size<w'.heap.size∧w'.cell? ⟨w,5,none⟩=some (.slice (some ⟨g,off,none⟩) ss.length sc)∧Hid (∀ j,j<k→VA R ss j=false)) (fun i _=>ss.length-(intOf i).toNat)
    case atStart=>exact ⟨0,Tw _,rfl,below_drewN (Z' _ _) _,by simp,by simp,fun j hj=>by omega⟩
    case round=>
     obtain ⟨k,hk,rfl,W9,T5,CX,KP⟩:=hrel
     by_cases VR:k<ss.length
     ·have Ey:=Vi.o.below W9
      obtain ⟨g',off',cap',e1,_,_,hg',Yw⟩:=PN Ey Zo
      cases e1
      have hc:=Yw k VR
      have fH:=Zh (CO.o wr (ss.getD k 0) W9)
      have CC:Hid (∀ w1,Below wr wr w1→Calls Tryz.prog 163 #[.slice (some ⟨g,off,none⟩) k sc,.int .u32 (ss.getD k 0)] w1 fun e w'=>e = .returned (.bool ((ss.take k).contains (ss.getD k 0)))∧w1=w'):=
       fun w1 h=>BI _ (ss.take k) _ w1 (qO (Ey.below h) k hk)
      have jC:=Zh (Bn R ss k)
      have mX:Hid (VA R ss k=true→Ds=9):=by
       intro h
       rw [aB.o,ZQ]
       rw [List.any_eq_true]
       exact ⟨k,by simpa using VR,h⟩
      clear Yw Ey
      generalize of R (ss.getD k 0)=O at *
      obtain ⟨o1,o2,o3⟩:=O
      dsimp only at fH jC
      generalize kQ:(ss.take k).contains (ss.getD k 0)=cn at *
      clear kQ
      generalize ss.getD k 0=x at *
      cases o3
      ·cases cn
       ·have HF:Hid (VA R ss k=false):=by show _=_;rw [jC.o];rfl
        go_wp2_with (first|(go_at_call 127;refine fH.o.mono ?_;rintro e w2 ⟨rfl,Y0⟩;have JK:=(Y0.cell (p:=⟨w,5,none⟩) T5).trans CX)|(go_at_call 163;refine (CC.o _ Y0).mono ?_;rintro e w3 ⟨rfl,rfl⟩))
        exact gh
       ·have HF:=Zh (mX.o (by rw [jC.o];rfl))
        go_wp2_with (first|(go_at_call 127;refine fH.o.mono ?_;rintro e w2 ⟨rfl,Y0⟩;have JK:=(Y0.cell (p:=⟨w,5,none⟩) T5).trans CX)|(go_at_call 163;refine (CC.o _ Y0).mono ?_;rintro e w3 ⟨rfl,rfl⟩))
        go_ret
        exact ⟨YW HF.o.symm,W9.trans (Y0.mono W9.size)⟩
      ·have HF:=Zh (mX.o (by rw [jC.o];rfl))
       go_wp2_with (first|(go_at_call 127;refine fH.o.mono ?_;rintro e w2 ⟨rfl,Y0⟩;have JK:=(Y0.cell (p:=⟨w,5,none⟩) T5).trans CX))
       go_ret
       exact ⟨YW HF.o.symm,W9.trans (Y0.mono W9.size)⟩
     ·exact gw
   ·have HF:Hid (Ds=9):=by show _=_;rw [bV.o];rfl
    go_wp2
    go_quiet (fail)
    go_wp2
    go_ret
    exact ⟨YW HF.o.symm,below_drewN (Z' _ _) _⟩
end Go.Proofs.Rm
