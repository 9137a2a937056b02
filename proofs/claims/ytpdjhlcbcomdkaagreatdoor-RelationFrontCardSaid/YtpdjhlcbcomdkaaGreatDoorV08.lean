/- Several texts in one: The walks of package room, each function once: what is only asked. The walks of package room, each function once: Of, Source, Sub, Subs. The walks of package room, each function once: Subs, gone, leave, begin, mute. The walks of package room, each function once: gone, leave, mute. The walks of package room, each function once: why an operation may not be done. The walks of package room, each function once: hears, about. The walks of package room, each function once: about. The walks of package room, each function once: publishes. -/
import Derived.BigQuiet
import Derived.Deep.QuietTactic
import Derived.Laws.ResultCell
import Derived.WalkSpells
import Derived.Test.YtpdjhlcbcomdkaaGreatDoorV01
import Derived.Test.YtpdjhlcbcomdkaaGreatDoorV02
import Derived.Test.YtpdjhlcbcomdkaaGreatDoorV06
set_option linter.unusedVariables false
set_option linter.unusedSimpArgs false
namespace Go.Proofs.Rm
open Go.RowKit Go.Proofs.Heap Go.Proofs.Mem
theorem ret_str {a b:ByteArray} (h:a=b):Ending.returned (.string a) = .returned (.string b):=by rw [h]
theorem ret_bool {a b:Bool} (h:a=b):Ending.returned (.bool a) = .returned (.bool b):=by rw [h]
theorem ret_int {k:IntKind} {a b:Int} (h:a=b):Ending.returned (.int k a) = .returned (.int k b):=by rw [h]
theorem inn_iff (n k:Int):inn n k=true↔1≤n∧n<k:=by unfold inn;simp
theorem in_any (n k:Int) (w:World):Calls Tryz.prog 111 #[.int .i64 n,.int .i64 k] w fun e w'=>e = .returned (.bool (inn n k))∧w=w':=by
 have hi:=inn_iff n k
 by_cases h:1≤n
 ·have HF:Hid (inn n k=decide (n<k)):=by show _=_;unfold inn;simp [h]
  clear hi
  go_enter Tryz.func111,Tryz.ntmps111
  go_wp2
  go_ret
  exact ⟨ret_bool HF.out.symm,rfl⟩
 ·have HF:Hid (inn n k=false):=by show _=_;rw [Bool.eq_false_iff,ne_eq,hi];omega
  clear hi
  go_enter Tryz.func111,Tryz.ntmps111
  go_wp2
  go_ret
  exact ⟨ret_bool HF.out.symm,rfl⟩
theorem str_ne (l:List UInt8):(str l).toList=[]↔l=[]:=by
 rw [toList_nil_iff_emptyBytes]
 constructor
 ·intro h
  have:=congrArg (fun b:ByteArray=>b.data.toList) h
  simpa [str] using this
 ·intro h;subst h;rfl
theorem str_emp (l:List UInt8):(str l).toList.isEmpty=l.isEmpty:=by
 rw [Bool.eq_iff_iff,List.isEmpty_iff,List.isEmpty_iff,str_ne]
set_option maxHeartbeats 400000 in
theorem Joined_any (b:Nat) (R:Room) (p:Int) (w:World) (hR:RoomAt w b R):Calls Tryz.prog 80 #[.pointer (some ⟨b,0,none⟩),.int .i64 p] w fun e w'=>e = .returned (.bool (joined R p))∧w=w':=by
 have C:=Lib.hid (fun w=>in_any p 9 w)
 by_cases hi:inn p 9=true
 ·rw [hi] at C
  obtain ⟨h1,h2⟩:=(inn_iff p 9).1 hi
  obtain ⟨n,rfl⟩:=Int.eq_ofNat_of_zero_le (show 0≤p by omega)
  have hn:n<9:=by omega
  have hc:=hR.namec hn
  have HF:Hid (joined R n = !(str (R.names n)).toList.isEmpty):=by show _=_;unfold joined;rw [hi,Int.toNat_natCast,str_emp,Bool.true_and]
  clear hi hR
  go_enter Tryz.func80,Tryz.ntmps80
  go_wp2_with (go_at_call 111;refine (C.out _).mono ?_;rintro e w' ⟨rfl,rfl⟩)
  all_goals go_ret
  all_goals exact ⟨ret_bool (by rw [HF.out]),rfl⟩
 ·have hi:inn p 9=false:=by simpa using hi
  have HF:Hid (joined R p=false):=by show _=_;unfold joined;rw [hi];rfl
  rw [hi] at C
  clear hi
  go_enter Tryz.func80,Tryz.ntmps80
  go_wp2_with (go_at_call 111;refine (C.out _).mono ?_;rintro e w' ⟨rfl,rfl⟩)
  go_ret
  exact ⟨ret_bool HF.out.symm,rfl⟩
set_option maxHeartbeats 400000 in
theorem end_any (b:Nat) (R:Room) (p n:Nat) (w:World) (hR:RoomAt w b R) (hn:n<9) (hp:p<9) :
  Calls Tryz.prog 139 #[.pointer (some ⟨b,0,none⟩),.int .i64 p,.int .i64 n] w fun e w'=>e = .returned (.agg #[.int .i64 2,.int .i64 p,.int .i64 n,.int .i64 0,.int .u32 0])∧RoomAt w' b (R.setSub n p noSub)∧Fr w.heap.size (· = b) w w':=by
 obtain ⟨c0,c1,c2⟩:=hR.subc hn hp
 have f0:=hR.unfrozen (54+n*27+p*3)
 have f1:=hR.unfrozen (54+n*27+p*3+1)
 have f2:=hR.unfrozen (54+n*27+p*3+2)
 have hb:=hR.lt
 go_enter Tryz.func139,Tryz.ntmps139
 go_wp2
 refine bodyPost_ret (v:= .agg #[.int .i64 2,.int .i64 p,.int .i64 n,.int .i64 0,.int .u32 0]) (by simp [results,Tryz.results139,go_sem]) rfl ⟨rfl,?_,?_⟩
 ·exact (hR.setSub hn hp noSub).below (below_alloc _ _)
 ·exact ((((Fr.refl _ _ _).setAt _ _).setAt _ _).setAt _ _).alloc (by simp only [size_setCell];exact Nat.le_refl _) _
set_option maxHeartbeats 400000 in
theorem asks_any (b:Nat) (R:Room) (p n:Nat) (w:World) (hR:RoomAt w b R) (hn:n<9) (hp:p<9) (hw:0≤(R.sub n p).want∧(R.sub n p).want<(R.src n).ss.length) :
  Calls Tryz.prog 166 #[.pointer (some ⟨b,0,none⟩),.int .i64 p,.int .i64 n] w fun e w'=>e = .returned (turnAgg (asks R p n))∧Below w.heap.size w w':=by
 obtain ⟨c0,c1,c2⟩:=hR.subc hn hp
 obtain ⟨s0,s1,s2,s3,s4⟩:=hR.srcc hn
 obtain ⟨k,hk⟩:=Int.eq_ofNat_of_zero_le hw.1
 rw [hk] at hw c2
 have hkl:k<(R.src n).ss.length:=by omega
 obtain ⟨g,off,cap,hsv,hlc,hcm,hg,hcells⟩:=u32_open (hR.rows n hn) (by omega)
 have hx:=hcells k hkl
 have HA:Hid (asks R p n=⟨9,(R.src n).own,n,0,(R.src n).ss.getD k 0⟩):=by show _=_;unfold asks;rw [hk];rfl
 rw [hsv] at s3
 have hb:=hR.lt
 have hlen:=(hR.rows n hn).len
 clear hk hcells hsv hR
 generalize (R.src n).ss.getD k 0=X at *
 generalize (R.src n).ss.length=L at *
 generalize (R.src n).own=O at *
 go_enter Tryz.func166,Tryz.ntmps166
 go_wp2
 go_region
 go_wp2
 refine bodyPost_ret (v:=turnAgg ⟨9,O,n,0,X⟩) (by simp [results,Tryz.results166,go_sem,turnAgg]) rfl ⟨by rw [HA.out],?_⟩
 exact (((Below.refl _ _).alloc (Nat.le_refl _) _).alloc (by simp) _).drew
set_option maxHeartbeats 400000 in
theorem waits_any (b:Nat) (R:Room) (p n:Nat) (w:World) (hR:RoomAt w b R) (hn:n<9) (hp:p<9) (hw:0≤(R.sub n p).want∧(R.sub n p).want<(R.src n).ss.length) :
  Calls Tryz.prog 141 #[.pointer (some ⟨b,0,none⟩),.int .i64 p,.int .i64 n] w fun e w'=>(∃ v,e = .returned v∧TurnRow w' v (waits R p n))∧Below w.heap.size w w':=by
 obtain ⟨c0,c1,c2⟩:=hR.subc hn hp
 obtain ⟨s0,s1,s2,s3,s4⟩:=hR.srcc hn
 have hb:=hR.lt
 have ca:=fun w hR=>asks_any b R p n w hR hn hp hw
 unfold turnAgg at ca
 have CA:=Lib.hid ca
 clear ca
 have HR:=Lib.hid hR
 have HW:Hid (waits R p n=if (R.sub n p).paused || (R.src n).muted then [] else [asks R p n]):=rfl
 clear hR hw
 generalize asks R p n=A at *
 obtain ⟨a1,a2,a3,a4,a5⟩:=A
 dsimp only at CA
 cases hpa:(R.sub n p).paused
 ·rw [hpa] at c1
  cases hmu:(R.src n).muted
  ·rw [hmu] at s4
   have HF:Hid (waits R p n=[⟨a1,a2,a3,a4,a5⟩]):=by show _=_;rw [HW.out,hpa,hmu];rfl
   clear hpa hmu HW
   go_enter Tryz.func141,Tryz.ntmps141
   go_wp2_with (go_at_call 166;refine (CA.out _ HR.out).mono ?_;rintro e w1 ⟨rfl,hb1⟩)
   go_ret
   refine ⟨⟨_,rfl,?_⟩,hb1.alloc (by simp [hb1.size]) _⟩
   rw [HF.out]
   exact row_new w1 _ 1 _ (by decide)
  ·rw [hmu] at s4
   have HF:Hid (waits R p n=[]):=by show _=_;rw [HW.out,hpa,hmu];rfl
   clear hpa hmu HW
   exact Yx142
 ·rw [hpa] at c1
  have HF:Hid (waits R p n=[]):=by show _=_;rw [HW.out,hpa];rfl
  clear hpa HW
  exact Yx142
theorem index_hit {l:List Int} {x:Int} {k:Nat} (hk:k<l.length) (h:l.getD k 0=x) (hn:∀ j,j<k→l.getD j 0≠x):index l x=k:=by
 unfold index
 have:l.findIdx? (fun y=>y == x)=some k:=by
  rw [List.findIdx?_eq_some_iff_getElem]
  refine ⟨hk,?_,fun j hj=>?_⟩
  ·rw [List.getD_eq_getElem?_getD,List.getElem?_eq_getElem hk] at h
   simpa using h
  ·have:=hn j hj
   rw [List.getD_eq_getElem?_getD,List.getElem?_eq_getElem (by omega)] at this
   simpa using this
 rw [this]
theorem index_miss {l:List Int} {x:Int} (hn:∀ j,j<l.length→l.getD j 0≠x):index l x = -1:=by
 unfold index
 have:l.findIdx? (fun y=>y == x)=none:=by
  rw [List.findIdx?_eq_none_iff]
  intro y hy
  obtain ⟨j,hj,rfl⟩:=List.getElem_of_mem hy
  have:=hn j hj
  rw [List.getD_eq_getElem?_getD,List.getElem?_eq_getElem hj] at this
  simpa using this
 rw [this]
set_option maxHeartbeats 400000 in
theorem Index_any (v:Value) (l:List Int) (x:Int) (w:World) (hv:RRow w v l.length (u32s l)) :
  Calls Tryz.prog 156 #[v,.int .u32 x] w fun e w'=>e = .returned (.int .i64 (index l x))∧w=w':=by
 have hlen:=hv.len
 by_cases h0:0<l.length
 ·obtain ⟨g,off,cap,rfl,hlc,hcm,hg,hcells⟩:=u32_openR hv h0
  have HC:=Lib.hid hcells
  have HH:=Lib.hid (fun k hk h hn=>@index_hit l x k hk h hn)
  have HM:=Lib.hid (@index_miss l x)
  clear hcells hv
  go_enter Tryz.func156,Tryz.ntmps156
  go_wp2
  go_loop [8] (fun i=>∃ k:Nat,k≤l.length∧i = .int .i64 k∧Hid (∀ j,j<k→l.getD j 0≠x)) (fun i=>l.length-(intOf i).toNat)
  case atStart=>exact ⟨0,Nat.zero_le _,rfl,fun j hj=>by omega⟩
  case round=>
   obtain ⟨k,hk,rfl,hno⟩:=hrel
   by_cases hkl:k<l.length
   ·have hc:=HC.out k hkl
    by_cases hx:l.getD k 0=x
    ·have HF:=Lib.hid (HH.out k hkl hx hno.out)
     rw [hx] at hc
     clear hx
     go_wp2
     go_ret
     exact ⟨ret_int HF.out.symm,rfl⟩
    ·have hbeq:(x == l.getD k 0)=false:=by rw [beq_eq_false_iff_ne];exact fun e=>hx e.symm
     have HX:=Lib.hid hx
     clear hx
     generalize hy:l.getD k 0=y at *
     have HY:=Lib.hid hy
     clear hy
     go_wp2
     go_round
     case rel=>exact ⟨k+1,by omega,by go_num,fun j hj=>by by_cases hjk:j<k;exact hno.out j hjk;rw [show j=k by omega,HY.out];exact HX.out⟩
     case measure=>simp [intOf];omega
   ·have HF:=Lib.hid (HM.out (fun j hj=>hno.out j (by omega)))
    go_wp2
    go_ret
    exact ⟨ret_int HF.out.symm,rfl⟩
 ·have:l=[]:=List.eq_nil_of_length_eq_zero (by omega)
  subst this
  obtain ⟨a,cap,rfl,_⟩:=hv
  go_enter Tryz.func156,Tryz.ntmps156
  go_wp2
  go_loop [8] (fun i=>i = .int .i64 0) (fun _=>0)
  case atStart=>rfl
  case round=>
   subst hrel
   go_wp2
   go_ret
   exact ⟨rfl,rfl⟩
end Go.Proofs.Rm
namespace Go.Proofs.Rm
open Go.RowKit Go.Proofs.Heap Go.Proofs.Mem
def srcsArr (R:Room):Array Value:=((List.range 45).map fun j=>roomCell R (9+j)).toArray
theorem srcsArr_size (R:Room):(srcsArr R).size=45:=by simp [srcsArr]
theorem srcsArr_at (R:Room) (j:Nat) (h:j<45):(srcsArr R)[j]?=some (roomCell R (9+j)):=by simp [srcsArr,h]
theorem srcsArr_part (R:Room) (n:Nat) (h:n<9):(srcsArr R).extract (n*5) (n*5+5)=#[.bool (R.src n).there,.int .i64 (R.src n).num,.int .i64 (R.src n).own,(R.src n).sv,.bool (R.src n).muted]:=by
 apply Array.ext'
 rw [Array.toList_extract]
 apply List.ext_getElem?
 intro i
 by_cases hi:i<5
 ·have:((srcsArr R).toList.extract (n*5) (n*5+5))[i]?=(srcsArr R)[n*5+i]?:=by
   rw [List.extract_eq_take_drop,List.getElem?_take_of_lt (by omega),List.getElem?_drop];simp
  rw [this,srcsArr_at R _ (by omega),show 9+(n*5+i)=9+n*5+i by omega,rc_src R h hi]
  have:i=0∨i=1∨i=2∨i=3∨i=4:=by omega
  rcases this with rfl|rfl|rfl|rfl|rfl <;> rfl
 ·rw [List.getElem?_eq_none (by rw [List.extract_eq_take_drop,List.length_take];omega),List.getElem?_eq_none Yo16]
set_option maxHeartbeats 1000000 in
theorem Of_any (b:Nat) (R:Room) (x:Int) (w:World) (hR:RoomAt w b R) :
  Calls Tryz.prog 127 #[.pointer (some ⟨b,0,none⟩),.int .u32 x] w fun e w'=>e = .returned (.tuple #[.int .i64 (of R x).1,.int .i64 (of R x).2.1,.bool (of R x).2.2])∧Below w.heap.size w w':=by
 have hcs:∀ j,j<(srcsArr R).size→w.cell? ⟨b,9+j,none⟩=(srcsArr R)[j]?:=by
  intro j hj
  rw [srcsArr_size] at hj
  rw [hR.cell (by omega),srcsArr_at R j hj]
 have hinfo:(Tryz.prog.info? 146).map (·.size)=some (srcsArr R).size:=by rw [srcsArr_size];kernel_rfl
 have HP:Hid (∀ n:Nat,n<9→∀ w,(Instr.index 146 (.agg (srcsArr R)) (.int .i64 (n:Int))).run Tryz.prog w = .ok (.agg #[.bool (R.src n).there,.int .i64 (R.src n).num,.int .i64 (R.src n).own,(R.src n).sv,.bool (R.src n).muted]) w):=
  fun n hn w=>Load.run_index_agg w 146 145 9 (srcsArr R) n 5 _ Tryz.underlying146 hn Tryz.underlying145 rfl Yo3 _ (srcsArr_part R n hn)
 have HR:=Lib.hid hR
 have hb:=hR.lt
 have HO:Hid (of R x=ofGo R x 9 0):=rfl
 have HS:Hid (∀ k n:Nat,ofGo R x (k+1) n=if (R.src n).there && decide (0≤index (R.src n).ss x) then ((n:Int),index (R.src n).ss x,true) else ofGo R x k (n+1)):=fun _ _=>rfl
 have HZ:Hid (∀ n:Nat,ofGo R x 0 n=(0,0,false)):=fun _=>rfl
 clear hR
 generalize srcsArr R=CS at *
 go_enter Tryz.func127,Tryz.ntmps127
 go_wp2_with (refine Load.wpList_load_part rfl 146 (.tmp 14) rfl b 9 rfl CS (.array 9 145) hcs Tryz.underlying146 rfl hinfo ?_)
 clear hcs hinfo
 go_loopw [16] (fun i w'=>∃ k:Nat,k≤9∧i = .int .i64 k∧Below w.heap.size w w'∧Hid (of R x=ofGo R x (9-k) k)) (fun i _=>9-(intOf i).toNat)
 case atStart=>exact ⟨0,by omega,rfl,Below.refl _ _,HO.out⟩
 case round=>
  obtain ⟨k,hk,rfl,hbl,hof⟩:=hrel
  by_cases hk9:k<9
  ·have hix:=HP.out k hk9
   have hRr:=HR.out.below hbl
   have CI:=Lib.hid (fun (w1:World) (h:Below wr.heap.size wr w1)=>Index_any (R.src k).sv (R.src k).ss x w1 ((hRr.rows k hk9).below h).r)
   have HE:=HS.out (8-k) k
   rw [show 8-k+1=9-k by omega] at HE
   have HE2:=Lib.hid HE
   obtain ⟨sa,scap,hsv,hx1⟩:=hRr.rows k hk9
   clear hx1
   rw [hsv] at hix CI
   clear HE hRr hsv
   generalize index (R.src k).ss x=q at *
   generalize (R.src k).ss.length=sl at *
   generalize (R.src k).num=nm at *
   generalize (R.src k).own=ow at *
   generalize (R.src k).muted=mt at *
   by_cases ht:(R.src k).there=true∧0≤q
   ·have HF:Hid (of R x=((k:Int),q,true)):=by
     show _=_
     rw [hof.out,HE2.out,ht.1];simp [ht.2]
    obtain ⟨ht1,ht2⟩:=ht
    rw [ht1] at hix
    clear ht1
    go_wp2_with (go_at_call 156;refine (CI.out _ (below_alloc _ _)).mono ?_;rintro e w1 ⟨rfl,rfl⟩)
    go_ret3
    exact ⟨by rw [HF.out];rfl,hbl.trans ((below_alloc _ _).mono hbl.size)⟩
   ·have HF:Hid (of R x=ofGo R x (9-(k+1)) (k+1)):=by
     show _=_
     rw [hof.out,HE2.out,if_neg (by simpa using ht),show 8-k=9-(k+1) by omega]
    cases hth:(R.src k).there
    ·exact Yx101
    ·have ht2:q<0:=by
      rw [hth] at ht;simp at ht;exact ht
     exact Yx101
  ·have HF:Hid (of R x=(0,0,false)):=by
    show _=_
    rw [hof.out,show 9-k=0 by omega,HZ.out]
   go_wp2
   go_ret3
   exact ⟨by rw [HF.out];rfl,hbl⟩
set_option maxHeartbeats 1000000 in
theorem Clone_any (v:Value) (l:List Int) (w:World) (hv:RRow w v l.length (u32s l)) (hl:l.length≤1000000) :
  Calls Tryz.prog 112 #[v] w fun e w'=>(∃ v',e = .returned v'∧Row w' 66 v' l.length (u32s l))∧Below w.heap.size w w':=by
 obtain ⟨a,cap,rfl,hx1,hx2,hx3,hx4⟩:=id hv
 have HV:=Lib.hid hv
 have HN:=Lib.hid hx3
 clear hv hx4 hx1 hx2 hx3
 cases a with
 | none=>
  obtain ⟨h1,h2⟩:=HN.out rfl
  have HL:Hid (l=[]):=List.eq_nil_of_length_eq_zero h1
  have he:=fun w=>Lib.run_eql_slice_nil (P:=Tryz.prog) w 29 66 none l.length cap 0 0 Tryz.underlying29
  clear h1 h2
  go_enter Tryz.func112,Tryz.ntmps112
  go_wp2
  go_ret
  exact ⟨⟨_,rfl,by rw [HL.out];exact Row.nil _ _⟩,Below.refl _ _⟩
 | some a=>
  have he:=fun w=>Lib.run_eql_slice_nil (P:=Tryz.prog) w 29 66 (some a) l.length cap 0 0 Tryz.underlying29
  clear HN
  go_enter Tryz.func112,Tryz.ntmps112
  go_wp2_with (at_builtin;refine wpList_appR rfl (.tmp 5) (.tmp 6) 29 rfl w.heap.size elemU32 _ 0 [] rfl (owns_empty w 66 1) _ l.length (u32s l) rfl (HV.out.below (below_alloc _ _)) (by rw [u32s_length];omega) (u32s_one l) (by omega) (by omega) (by simp) (fun v' w1 HO HG=>?_))
  go_ret
  have hb:=((Fr.refl w.heap.size NoB w).alloc (Nat.le_refl _) (.cells #[] 66)).grown HG.out (by simp) (by
   intro k hk
   have hk:some w.heap.size=some k:=hk
   cases hk
   exact Nat.le_refl _)
  refine ⟨⟨_,rfl,?_⟩,hb.below⟩
  have:=Row.of_owns HO.out
  rwa [Nat.zero_add,List.nil_append] at this
set_option maxHeartbeats 1000000 in
theorem Sub_any (b:Nat) (R:Room) (p n:Int) (w:World) (hR:RoomAt w b R) :
  Calls Tryz.prog 83 #[.pointer (some ⟨b,0,none⟩),.int .i64 p,.int .i64 n] w fun e w'=>
   e = .returned (.tuple #[.agg (if hears R p n then #[.int .i64 p,.int .i64 n,.int .i64 (R.sub n.toNat p.toNat).want,.bool (R.sub n.toNat p.toNat).paused] else #[.int .i64 0,.int .i64 0,.int .i64 0,.bool false]),.bool (hears R p n)])∧Below w.heap.size w w':=by
 have CP:=Lib.hid (fun w=>in_any p 9 w)
 have CN:=Lib.hid (fun w=>in_any n 9 w)
 have hb:=hR.lt
 have HH:Hid (hears R p n=(inn p 9 && inn n 9 && (R.sub n.toNat p.toNat).there)):=rfl
 by_cases hp:inn p 9=true
 ·by_cases hn:inn n 9=true
  ·obtain ⟨h1,h2⟩:=(inn_iff p 9).1 hp
   obtain ⟨h3,h4⟩:=(inn_iff n 9).1 hn
   obtain ⟨p,rfl⟩:=Int.eq_ofNat_of_zero_le (show 0≤p by omega)
   obtain ⟨n,rfl⟩:=Int.eq_ofNat_of_zero_le (show 0≤n by omega)
   rw [Int.toNat_natCast,Int.toNat_natCast] at HH ⊢
   rw [hp] at CP HH
   rw [hn] at CN HH
   obtain ⟨c0,c1,c2⟩:=hR.subc (n:=n) (p:=p) (by omega) (by omega)
   clear hp hn hR
   cases ht:(R.sub n p).there
   ·rw [ht] at c0
    have HF:Hid (hears R p n=false):=by show _=_;rw [HH.out,ht];rfl
    rw [HF.out]
    clear ht
    exact Yx128
   ·rw [ht] at c0
    have HF:Hid (hears R p n=true):=by show _=_;rw [HH.out,ht];rfl
    rw [HF.out]
    clear ht
    go_enter Tryz.func83,Tryz.ntmps83
    go_wp2_with fail
    refine (CP.out _).mono ?_
    rintro e w1 ⟨rfl,rfl⟩
    go_wp2_with fail
    refine (CN.out _).mono ?_
    rintro e w1 ⟨rfl,rfl⟩
    go_wp2_with fail
    refine bodyPost_ret (v:= .tuple #[.agg #[.int .i64 p,.int .i64 n,.int .i64 (R.sub n p).want,.bool (R.sub n p).paused],.bool true]) (by simp [results,Tryz.results83,go_sem]) rfl ⟨rfl,?_⟩
    repeat (first|exact Below.refl _ _|refine Below.drew ?_|refine Below.alloc ?_ (by simp) _)
  ·have hn:inn n 9=false:=by simpa using hn
   have HF:Hid (hears R p n=false):=by show _=_;rw [HH.out,hp,hn];rfl
   rw [HF.out]
   rw [hp] at CP
   rw [hn] at CN
   clear hp hn hR
   exact Yx128
 ·have hp:inn p 9=false:=by simpa using hp
  have HF:Hid (hears R p n=false):=by show _=_;rw [HH.out,hp];rfl
  rw [HF.out]
  rw [hp] at CP
  clear hp hR
  go_enter Tryz.func83,Tryz.ntmps83
  go_wp2_with fail
  refine (CP.out _).mono ?_
  exact Yx75
set_option maxHeartbeats 1000000 in
theorem Source_no (b:Nat) (R:Room) (n:Int) (w:World) (hR:RoomAt w b R) (h:(inn n 9 && (R.src n.toNat).there)=false) :
  Calls Tryz.prog 81 #[.pointer (some ⟨b,0,none⟩),.int .i64 n] w fun e w'=>
   e = .returned (.tuple #[.agg #[.int .i64 0,.int .i64 0,.slice none 0 0,.bool false],.bool false])∧Below w.heap.size w w':=by
 have CN:=Lib.hid (fun w=>in_any n 9 w)
 have hb:=hR.lt
 by_cases hn:inn n 9=true
 ·obtain ⟨h3,h4⟩:=(inn_iff n 9).1 hn
  obtain ⟨n,rfl⟩:=Int.eq_ofNat_of_zero_le (show 0≤n by omega)
  rw [hn,Int.toNat_natCast,Bool.true_and] at h
  obtain ⟨s0,s1,s2,s3,s4⟩:=hR.srcc (n:=n) (by omega)
  rw [h] at s0
  exact Yx84
 ·have hn:inn n 9=false:=by simpa using hn
  exact Yx84
set_option maxHeartbeats 1000000 in
theorem Source_yes (b:Nat) (R:Room) (n:Nat) (w:World) (hR:RoomAt w b R) (hn:1≤n∧n<9) (h:(R.src n).there=true) (hl:(R.src n).ss.length≤1000000) :
  Calls Tryz.prog 81 #[.pointer (some ⟨b,0,none⟩),.int .i64 n] w fun e w'=>
   (∃ v',e = .returned (.tuple #[.agg #[.int .i64 (R.src n).num,.int .i64 (R.src n).own,v',.bool (R.src n).muted],.bool true])∧Row w' 66 v' (R.src n).ss.length (u32s (R.src n).ss))∧Below w.heap.size w w':=by
 have CN:=Lib.hid (fun w=>in_any n 9 w)
 have hb:=hR.lt
 have hi:inn n 9=true:=(inn_iff _ _).2 (by omega)
 obtain ⟨s0,s1,s2,s3,s4⟩:=hR.srcc hn.2
 rw [h] at s0
 rw [hi] at CN
 have HROW:=Lib.hid (hR.rows n hn.2)
 obtain ⟨sa,scap,hsv,hx1⟩:=hR.rows n hn.2
 have CC:=Lib.hid (fun w1 (hw:Below w.heap.size w w1)=>Clone_any (R.src n).sv (R.src n).ss w1 ((hR.rows n hn.2).below hw).r hl)
 rw [hsv] at s3 CC
 clear hi h hR hx1 hsv
 generalize (R.src n).ss=ss at *
 generalize (R.src n).num=nm at *
 generalize (R.src n).own=ow at *
 generalize (R.src n).muted=mt at *
 go_enter Tryz.func81,Tryz.ntmps81
 go_wp2_with fail
 refine (CN.out _).mono ?_
 rintro e w1 ⟨rfl,rfl⟩
 go_wp2_with fail
 refine (CC.out _ (by repeat (first|exact Below.refl _ _|refine Below.alloc ?_ (by simp) _))).mono ?_
 rintro e w1 ⟨⟨v',rfl,hrow⟩,hb1⟩
 have HROW2:=Lib.hid hrow
 obtain ⟨a',cap',rfl,hx1⟩:=hrow
 obtain ⟨hcl,hfz⟩:=bcell hb1
 have hz:w.heap.size+1<w1.heap.size:=by have:=hb1.size;simp at this;omega
 have HB:=Lib.hid hb1
 have r0:=hcl w.heap.size 0 Yo16
 have r1:=hcl w.heap.size 1 Yo16
 have r2:=hcl w.heap.size 2 Yo16
 have r3:=hcl w.heap.size 3 Yo16
 simp at r0 r1 r2 r3
 clear hx1 hb1
 go_wp2_with fail
 refine bodyPost_ret (v:= .tuple #[.agg #[.int .i64 nm,.int .i64 ow,.slice a' ss.length cap',.bool mt],.bool true]) (by simp [results,Tryz.results81,go_sem,r0,r1,r2,r3]) rfl ⟨⟨_,rfl,?_⟩,?_⟩
 ·refine HROW2.out.fr (B:=w1.heap.size) (S:=fun k=>w.heap.size≤k∧k<w.heap.size+2) ?_ (Nat.le_refl _) ?_
  ·repeat (refine Fr.setCell ?_ (Or.inr (by simp)) _)
   exact Fr.refl _ _ _
  ·intro k c fr hk
   rw [HB.out.block k Yo16]
   obtain ⟨n1,n2⟩:=two_new w (.cells #[.int .i64 0,.int .i64 0,.slice none 0 0,.bool false] 108) (.cells #[.int .i64 nm,.int .i64 ow,.slice sa ss.length scap,.bool mt] 108)
   have:k=w.heap.size∨k=w.heap.size+1:=by omega
   rcases this with rfl|rfl
   ·rw [n1];exact cells_ne (by decide)
   ·rw [n2];exact cells_ne (by decide)
 ·repeat (refine Below.setCell ?_ (by simp) _)
  exact ((below_alloc _ _).trans ((below_alloc _ _).mono (by simp))).trans (HB.out.mono Yo16)
end Go.Proofs.Rm
namespace Go.Proofs.Rm
open Go.RowKit Go.Proofs.Heap Go.Proofs.Mem
theorem owns_below {base:Nat} {e:TypeId} {size:Nat} {v:Value} {n:Nat} {xs:List Value} {w w':World} (h:w.ownsRow base e size v n xs) (hb:Below w.heap.size w w'):w'.ownsRow base e size v n xs:=by
 obtain ⟨h1,h2⟩:=h
 refine ⟨h1,?_⟩
 rcases h2 with h2|⟨g,cap,cur,hv,hg,hh,r⟩
 ·exact Or.inl h2
 ·have hlt:g<w.heap.size:=by
   rcases Nat.lt_or_ge g w.heap.size with h|h
   ·exact h
   ·rw [Array.getElem?_eq_none h] at hh;cases hh
  exact Or.inr ⟨g,cap,cur,hv,hg,by rw [hb.block g hlt];exact hh,r⟩
def subsTo (R:Room) (n:Int) (k:Nat):List Nat:=(List.range k).filter fun p=>hears R p n
theorem subsTo_succ (R:Room) (n:Int) (k:Nat):subsTo R n (k+1)=subsTo R n k++if hears R k n then [k] else []:=by
 unfold subsTo
 rw [List.range_succ,List.filter_append]
 congr 1
 cases h:hears R k n <;> simp [h]
theorem subsTo_len (R:Room) (n:Int) (k:Nat):(subsTo R n k).length≤k:=by
 have:=List.length_filter_le (fun p:Nat=>hears R p n) (List.range k)
 rw [List.length_range] at this
 exact this
theorem ints_append (a b:List Nat):ints (a++b)=ints a++ints b:=List.map_append
theorem own_le {base:Nat} {e:TypeId} {size:Nat} {v:Value} {n:Nat} {xs:List Value} {w:World} (h:w.ownsRow base e size v n xs):∀ k,v.ownBlock=some k→base≤k:=by
 intro k hk
 obtain ⟨_,h⟩:=h
 rcases h with ⟨rfl,_⟩|⟨g,cap,cur,rfl,hg,_⟩
 ·cases hk
 ·have hk:some g=some k:=hk
  cases hk;exact hg
set_option maxHeartbeats 1000000 in
theorem Subs_any (b:Nat) (R:Room) (n:Int) (w:World) (hR:RoomAt w b R) :
  Calls Tryz.prog 82 #[.pointer (some ⟨b,0,none⟩),.int .i64 n] w fun e w'=>(∃ v,e = .returned v∧Row w' 3 v (subs R n).length (ints (subs R n)))∧Below w.heap.size w w':=by
 have HR:=Lib.hid hR
 have hb:=hR.lt
 have HS:Hid (subs R n=subsTo R n 9):=rfl
 clear hR
 go_enter Tryz.func82,Tryz.ntmps82
 go_wp2
 go_loopw [5,9] (fun v i w'=>∃ k:Nat,k≤9∧i = .int .i64 k∧Below w.heap.size w w'∧w'.ownsRow w.heap.size 3 1 v (subsTo R n k).length (ints (subsTo R n k))) (fun _ i _=>9-(intOf i).toNat)
 case atStart=>exact ⟨0,by omega,rfl,Below.refl _ _,World.ownsRow_nil _ _ _ _⟩
 case round=>
  obtain ⟨k,hk,rfl,hbl,hown⟩:=hrel
  have HOWN:=Lib.hid hown
  clear hown
  by_cases hk9:k<9
  ·have cs:=Sub_any b R k n wr (HR.out.below hbl)
   have HSS:=Lib.hid (subsTo_succ R n k)
   have HSL:=subsTo_len R n k
   cases hh:hears R k n
   ·rw [hh,if_neg (by decide)] at cs
    have CS:=Lib.hid cs
    clear cs
    have HF:Hid (subsTo R n (k+1)=subsTo R n k):=by show _=_;rw [HSS.out,hh];simp
    clear hh
    go_wp2_with (go_at_call 83;refine CS.out.mono ?_;rintro e w1 ⟨rfl,hb1⟩)
    go_roundw
    case rel=>
     refine ⟨k+1,by omega,by go_num,(hbl.trans (hb1.mono hbl.size)).alloc (Nat.le_trans hbl.size hb1.size) _,?_⟩
     rw [HF.out]
     exact (owns_below HOWN.out hb1).alloc _
    case measure=>simp [intOf];omega
   ·rw [hh,if_pos rfl,Int.toNat_natCast] at cs
    generalize (R.sub n.toNat k).want=wa at cs
    generalize (R.sub n.toNat k).paused=pa at cs
    have CS:=Lib.hid cs
    clear cs
    have HF:Hid (subsTo R n (k+1)=subsTo R n k++[k]):=by show _=_;rw [HSS.out,hh];simp
    clear hh
    go_wp2_with (first|(go_at_call 83;refine CS.out.mono ?_;rintro e w1 ⟨rfl,hb1⟩)|(at_builtin;refine wpList_app rfl (.tmp 20) (.tmp 22) 72 rfl w.heap.size elemInt _ (subsTo R n k).length (ints (subsTo R n k)) rfl ?a1 _ 1 [.int .i64 k] rfl ?a2 rfl ?a4 ?a5 ?a6 ?a7 (fun v' w2 HO2 HG=>?_)))
    case a1=>exact ((owns_below HOWN.out hb1).alloc _).alloc _
    case a2=>exact row_new' _ _ 1 _ [.int .i64 k] (by decide) (by simp)
    case a4=>intro u hu;simp at hu;subst hu;rfl
    case a5=>omega
    case a6=>omega
    case a7=>have h1:=hbl.size;have h2:=hb1.size;simp;omega
    go_roundw
    case rel=>
     refine ⟨k+1,by omega,by go_num,?_,?_⟩
     ·have h1:=hbl.trans (hb1.mono hbl.size)
      have h2:=h1.alloc h1.size (.cells #[.int .i64 k,.int .i64 n,.int .i64 wa,.bool pa] 105)
      have h3:=h2.alloc h2.size (.cells #[.int .i64 k] 3)
      exact h3.grown HG.out h3.size (own_le HOWN.out)
     ·rw [HF.out,List.length_append,ints_append]
      exact HO2.out
    case measure=>simp [intOf];omega
  ·have hk':k=9:=by omega
   subst hk'
   go_wp2
   go_ret
   exact ⟨⟨_,rfl,by rw [HS.out];exact Row.of_owns HOWN.out⟩,hbl⟩
end Go.Proofs.Rm
namespace Go.Proofs.Rm
open Go.RowKit Go.Proofs.Heap Go.Proofs.Mem
theorem Row.grown {w w':World} {e:TypeId} {v:Value} {n:Nat} {xs:List Value} (h:Row w e v n xs) {base:Nat} {e2:TypeId} {size:Nat} {vo:Value} {m:Nat} {ys:List Value} (ho:w.ownsRow base e2 size vo m ys) (hg:w.grownBy w' vo.ownBlock) (hne:e≠e2):Row w' e v n xs:=by
 refine h.fr (B:=w.heap.size) (S:=fun k=>vo.ownBlock=some k) ⟨hg.os,hg.tape,hg.output,hg.size,fun k hk hs=>hg.block k hk (fun e=>hs e.symm)⟩ (Nat.le_refl _) ?_
 intro k c fr hk he
 obtain ⟨_,ho⟩:=ho
 rcases ho with ⟨rfl,_⟩|⟨g,cap,cur,rfl,_,hh,_⟩
 ·cases hk
 ·have hk:some g=some k:=hk
  cases hk
  rw [hh] at he
  exact cells_ne (fun h=>hne h.symm) he
theorem RoomAt.grown {w w':World} {b:Nat} {R:Room} (h:RoomAt w b R) {base:Nat} {e2:TypeId} {size:Nat} {vo:Value} {m:Nat} {ys:List Value} (ho:w.ownsRow base e2 size vo m ys) (hg:w.grownBy w' vo.ownBlock) (hb:b<base) (hne:66≠e2):RoomAt w' b R:=by
 refine ⟨?_,fun n hn=>Row.grown (h.rows n hn) ho hg hne⟩
 obtain ⟨c,hc,hs,hall⟩:=h.cells
 refine ⟨c,?_,hs,hall⟩
 rw [hg.block b h.lt (fun e=>by have:=own_le ho b e.symm;omega)]
 exact hc
theorem owns_fr {base:Nat} {e:TypeId} {size:Nat} {v:Value} {n:Nat} {xs:List Value} {w w':World} {S:Nat→Prop} (h:w.ownsRow base e size v n xs) (hf:Fr w.heap.size S w w') (hS:∀ k,S k→k<base):w'.ownsRow base e size v n xs:=by
 obtain ⟨h1,h2⟩:=h
 refine ⟨h1,?_⟩
 rcases h2 with h2|⟨g,cap,cur,hv,hg,hh,r⟩
 ·exact Or.inl h2
 ·have hlt:g<w.heap.size:=by
   rcases Nat.lt_or_ge g w.heap.size with h|h
   ·exact h
   ·rw [Array.getElem?_eq_none h] at hh;cases hh
  exact Or.inr ⟨g,cap,cur,hv,hg,by rw [hf.block g hlt (fun hs=>by have:=hS g hs;omega)];exact hh,r⟩
theorem RoomAt.typ {w:World} {b:Nat} {R:Room} (h:RoomAt w b R) {e:TypeId} (he:e≠152):∀ k c fr,k=b→w.heap[k]?≠some (.cells c e fr):=by
 intro k c fr hk
 subst hk
 obtain ⟨c',hc,_,_⟩:=h.cells
 rw [hc]
 exact cells_ne (fun h=>he h.symm)
theorem src_setSrc (R:Room) (n:Nat) (x:Src):(R.setSrc n x).src n=x:=by simp [Room.setSrc]
theorem setSrc_setSrc (R:Room) (n:Nat) (x y:Src):(R.setSrc n x).setSrc n y=R.setSrc n y:=by
 unfold Room.setSrc
 congr 1
 funext m
 dsimp only
 split <;> rfl
theorem RoomAt.setSrcCell {w:World} {b:Nat} {R:Room} (h:RoomAt w b R) {n i:Nat} (hn:n<9) (hi:i<5) {x:Src} {v:Value} (hx:∀ j,j<5→srcCell x j=if j=i then v else srcCell (R.src n) j)
  (hrow:Row w 66 x.sv x.ss.length (u32s x.ss)):RoomAt (w.setCell ⟨b,9+n*5+i,none⟩ v) b (R.setSrc n x):=by
 refine h.set (by omega) (fun j hj=>?_) (fun m hm=>?_)
 ·by_cases h1:j<9∨54≤j
  ·unfold roomCell
   rw [if_neg (by omega:¬j=9+n*5+i)]
   by_cases h2:j<9
   ·rw [if_pos h2,if_pos h2];rfl
   ·rw [if_neg h2,if_neg h2,if_neg (by omega),if_neg (by omega)];rfl
  ·unfold roomCell
   rw [if_neg (by omega:¬j<9),if_pos (by omega:j<54),if_neg (by omega:¬j<9),if_pos (by omega:j<54)]
   by_cases h3:(j-9) / 5=n
   ·have e:(R.setSrc n x).src ((j-9) / 5)=x:=by simp [Room.setSrc,h3]
    rw [e,h3,hx _ (by omega)]
    have:((j-9) % 5=i)↔(j=9+n*5+i):=by omega
    by_cases h4:(j-9) % 5=i
    ·rw [if_pos h4,if_pos (this.1 h4)]
    ·rw [if_neg h4,if_neg (fun e=>h4 (this.2 e))]
   ·have e:(R.setSrc n x).src ((j-9) / 5)=R.src ((j-9) / 5):=by simp [Room.setSrc,h3]
    rw [e,if_neg (by omega)]
 ·by_cases hmn:m=n
  ·subst hmn;rw [src_setSrc];exact hrow
  ·have e:(R.setSrc n x).src m=R.src m:=by simp [Room.setSrc,hmn]
   rw [e];exact h.rows m hm
theorem RoomAt.setSrc {w:World} {b:Nat} {R:Room} (h:RoomAt w b R) {n:Nat} (hn:n<9) (x:Src) (hrow:Row w 66 x.sv x.ss.length (u32s x.ss)) :
  RoomAt (((((w.setCell ⟨b,9+n*5,none⟩ (.bool x.there)).setCell ⟨b,9+n*5+1,none⟩ (.int .i64 x.num)).setCell ⟨b,9+n*5+2,none⟩ (.int .i64 x.own)).setCell ⟨b,9+n*5+3,none⟩ x.sv).setCell ⟨b,9+n*5+4,none⟩ (.bool x.muted)) b (R.setSrc n x):=by
 have ho:=h.other
 obtain ⟨c,hc,_,_⟩:=h.cells
 have r1:=h.rows n hn
 have c5:∀ j,j<5→(j=0∨j=1∨j=2∨j=3∨j=4):=by intro j hj;omega
 have h1:=h.setSrcCell hn (i:=0) (by omega) (x:={R.src n with there:=x.there}) (v:= .bool x.there) (by intro j hj;rcases c5 j hj with rfl|rfl|rfl|rfl|rfl <;> rfl) r1
 have h2:=h1.setSrcCell hn (i:=1) (by omega) (x:={R.src n with there:=x.there,num:=x.num}) (v:= .int .i64 x.num) Yo28 (by have:=h1.rows n hn;rw [src_setSrc] at this;exact this)
 have h3:=h2.setSrcCell hn (i:=2) (by omega) (x:={R.src n with there:=x.there,num:=x.num,own:=x.own}) (v:= .int .i64 x.own) Yo28 (by have:=h2.rows n hn;rw [src_setSrc] at this;exact this)
 have hrow3:Row (((w.setCell ⟨b,9+n*5,none⟩ (.bool x.there)).setCell ⟨b,9+n*5+1,none⟩ (.int .i64 x.num)).setCell ⟨b,9+n*5+2,none⟩ (.int .i64 x.own)) 66 x.sv x.ss.length (u32s x.ss):=
  hrow.fr ((((Fr.refl w.heap.size (· = b) w).setAt _ _).setAt _ _).setAt _ _) (Nat.le_refl _) ho
 have h4:=h3.setSrcCell hn (i:=3) (by omega) (x:={R.src n with there:=x.there,num:=x.num,own:=x.own,sv:=x.sv,ss:=x.ss}) (v:=x.sv) Yo28 hrow3
 have h5:=h4.setSrcCell hn (i:=4) (by omega) (x:=x) (v:= .bool x.muted) Yo28 (by have:=h4.rows n hn;rw [src_setSrc] at this;exact this)
 rw [setSrc_setSrc,setSrc_setSrc,setSrc_setSrc,setSrc_setSrc] at h5
 exact h5
theorem goneGo_snoc (n:Nat) (p:Nat):∀ (l:List Nat) (R:Room),goneGo n (l++[p]) R=((goneGo n l R).1++[⟨3,p,n,0,0⟩,⟨2,p,n,0,0⟩],(goneGo n l R).2.setSub n p noSub)
 | [],R=>rfl
 | q :: l,R=>by
  simp only [List.cons_append,goneGo]
  rw [goneGo_snoc n p l]
theorem goneGo_len (n:Nat):∀ (l:List Nat) (R:Room),(goneGo n l R).1.length=2*l.length
 | [],R=>rfl
 | q :: l,R=>by
  simp only [goneGo,List.length_cons,goneGo_len n l];omega
theorem turnCells_len (t:Turn):(turnCells t).length=5:=rfl
theorem turns_one (l:List Turn):∀ u∈l.flatMap turnCells,u.oneCell'=true:=by
 intro u hu
 obtain ⟨t,_,hu⟩:=List.mem_flatMap.1 hu
 simp only [turnCells,List.mem_cons,List.mem_nil_iff,or_false] at hu
 rcases hu with rfl|rfl|rfl|rfl|rfl <;> rfl
theorem turns_len (l:List Turn):(l.flatMap turnCells).length=l.length*5:=flat_length _ 5 turnCells_len l
theorem int_open {w:World} {v:Value} {l:List Nat} (h:Row w 3 v l.length (ints l)) (hl:0<l.length):∃ g off cap,v = .slice (some ⟨g,off,none⟩) l.length cap∧g<w.heap.size∧∀ j,j<l.length→w.cell? ⟨g,off+j,none⟩=some (.int .i64 (l.getD j 0:Nat)):=by
 have hil:(ints l).length=l.length:=List.length_map _
 obtain ⟨g,off,cap,h1,_,_,h4,h5⟩:=h.open (by rw [hil];exact hl)
 refine ⟨g,off,cap,h1,h4,fun j hj=>?_⟩
 rw [h5 j (by rw [hil];exact hj),List.getD_eq_getElem?_getD,List.getElem?_eq_getElem hj]
 simp [ints,hj]
theorem subs_mem {R:Room} {n:Int} {j:Nat} (h:j<(subs R n).length):(subs R n).getD j 0<9:=by
 rw [List.getD_eq_getElem?_getD,List.getElem?_eq_getElem h]
 have:=List.getElem_mem h
 have:=(List.mem_filter.1 this).1
 simpa using this
theorem subs_len (R:Room) (n:Int):(subs R n).length≤9:=subsTo_len R n 9
theorem take_snoc {l:List Nat} {k:Nat} (h:k<l.length):l.take (k+1)=l.take k++[l.getD k 0]:=by
 rw [List.take_succ_eq_append_getElem h,List.getD_eq_getElem?_getD,List.getElem?_eq_getElem h];rfl
set_option maxHeartbeats 2000000 in
theorem gone_any (b:Nat) (R:Room) (n:Nat) (w:World) (hR:RoomAt w b R) (hn:n<9) :
  Calls Tryz.prog 137 #[.pointer (some ⟨b,0,none⟩),.int .i64 n] w fun e w'=>(∃ v,e = .returned v∧TurnRow w' v (gone R n).1)∧RoomAt w' b (gone R n).2∧Fr w.heap.size (· = b) w w':=by
 have hb:=hR.lt
 have CS:=Lib.hid (Subs_any b R n w hR)
 have HG0:Hid (gone R n=((goneGo n (subs R n) R).1,(goneGo n (subs R n) R).2.setSrc n noSrc)):=rfl
 have HM:Hid (∀ j,j<(subs R n).length→(subs R n).getD j 0<9):=fun j h=>subs_mem h
 have HL:=subs_len R n
 have HR:=Lib.hid hR
 clear hR
 generalize subs R n=L at *
 go_enter Tryz.func137,Tryz.ntmps137
 go_wp2_with fail
 refine CS.out.mono ?_
 rintro e w1 ⟨⟨lv,rfl,hrow⟩,hb1⟩
 have HROW:=Lib.hid hrow
 have HB:=Lib.hid hb1
 clear hb1
 rcases Nat.eq_zero_or_pos L.length with h0|h0
 ·obtain ⟨la,lcap,rfl,hx⟩:=hrow
  clear hx
  have HLE:Hid (L=[]):=List.eq_nil_of_length_eq_zero h0
  have HROOM:=Lib.hid (HR.out.below HB.out)
  obtain ⟨s0,s1,s2,s3,s4⟩:=HROOM.out.srcc hn
  have f0:=HROOM.out.unfrozen (9+n*5)
  have f1:=HROOM.out.unfrozen (9+n*5+1)
  have f2:=HROOM.out.unfrozen (9+n*5+2)
  have f3:=HROOM.out.unfrozen (9+n*5+3)
  have f4:=HROOM.out.unfrozen (9+n*5+4)
  go_wp2_with fail
  go_loopw [5,12] (fun v i w'=>v = .slice none 0 0∧i = .int .i64 0∧w'=w1) (fun _ _ _=>0)
  case atStart=>exact ⟨rfl,rfl,rfl⟩
  case round=>
   obtain ⟨rfl,rfl,rfl⟩:=hrel
   go_wp2
   go_ret
   rw [HG0.out,HLE.out]
   refine ⟨⟨_,rfl,?_⟩,HROOM.out.setSrc hn noSrc (Row.nil _ _),((((((Fr.of_below _ HB.out).setAt _ _).setAt _ _).setAt _ _).setAt _ _).setAt _ _)⟩
   exact Row.nil _ _
 ·obtain ⟨g,off,cap,rfl,hg,hcells⟩:=int_open hrow h0
  have HC:=Lib.hid hcells
  clear hrow hcells
  go_wp2_with fail
  go_loopw [5,12] (fun v i w'=>∃ k:Nat,k≤L.length∧i = .int .i64 k∧Fr w.heap.size (· = b) w w'∧Row w' 3 (.slice (some ⟨g,off,none⟩) L.length cap) L.length (ints L)∧RoomAt w' b (goneGo n (L.take k) R).2∧w'.ownsRow w.heap.size 158 5 v (goneGo n (L.take k) R).1.length ((goneGo n (L.take k) R).1.flatMap turnCells)) (fun _ i _=>L.length-(intOf i).toNat)
  case atStart=>exact ⟨0,by omega,rfl,Fr.of_below _ HB.out,HROW.out,HR.out.below HB.out,World.ownsRow_nil _ _ _ _⟩
  case round=>
   obtain ⟨k,hk,rfl,hfr,hrow,hroom,hown⟩:=hrel
   have HFR:=Lib.hid hfr
   have HROW2:=Lib.hid hrow
   have HROOM:=Lib.hid hroom
   have HOWN:=Lib.hid hown
   clear hfr hown hroom
   by_cases hkl:k<L.length
   ·obtain ⟨g',off',cap',e1,hg',hcells⟩:=int_open hrow h0
    cases e1
    have hc:=hcells k hkl
    have hp:=HM.out k hkl
    have HT:=Lib.hid (take_snoc hkl)
    have HGL:=goneGo_len n (L.take k) R
    rw [List.length_take] at HGL
    clear hcells hrow
    generalize L.getD k 0=p at *
    have HS:=Lib.hid (goneGo_snoc n p (L.take k) R)
    have CE:=Lib.hid (end_any b (goneGo n (L.take k) R).2 p n wr HROOM.out hn hp)
    generalize goneGo n (L.take k) R=G at *
    go_wp2_with (first|(go_at_call 139;refine CE.out.mono ?_;rintro e w2 ⟨rfl,hroom2,hfr2⟩;have HROOM2:=Lib.hid hroom2;have HFR2:=Lib.hid hfr2;clear hroom2 hfr2)|(at_builtin;refine wpList_app rfl (.tmp 16) (.tmp 24) 98 rfl w.heap.size elemTurn _ G.1.length (G.1.flatMap turnCells) rfl ?a1 _ 2 ([⟨3,p,n,0,0⟩,⟨2,p,n,0,0⟩].flatMap turnCells) rfl ?a2 rfl ?a4 ?a5 ?a6 ?a7 (fun v' w3 HO HG=>?_)))
    case a1=>exact (owns_fr HOWN.out HFR2.out (fun k hk=>by omega)).alloc _
    case a2=>exact row_new' _ _ 2 _ ([⟨3,p,n,0,0⟩,⟨2,p,n,0,0⟩].flatMap turnCells) (by decide) rfl
    case a4=>exact turns_one _
    case a5=>omega
    case a6=>omega
    case a7=>have h1:=HFR.out.size;have h2:=HFR2.out.size;simp;omega
    go_roundw
    case rel=>
     have h1:=HFR.out.size
     have h2:=HFR2.out.size
     have hown2:=(owns_fr HOWN.out HFR2.out (fun k hk=>by omega)).alloc (.cells ([⟨3,p,n,0,0⟩,⟨2,p,n,0,0⟩].flatMap turnCells).toArray 158)
     have hbl:=below_alloc w2 (.cells ([⟨3,p,n,0,0⟩,⟨2,p,n,0,0⟩].flatMap turnCells).toArray 158)
     refine ⟨k+1,by omega,by go_num,?_,?_,?_,?_⟩
     ·exact Yx114
     ·exact Row.grown ((HROW2.out.fr HFR2.out (Nat.le_refl _) (HROOM.out.typ (by decide))).below hbl) hown2 HG.out (by decide)
     ·rw [HT.out,HS.out]
      exact RoomAt.grown (HROOM2.out.below hbl) hown2 HG.out hb (by decide)
     ·rw [HT.out,HS.out]
      dsimp only
      rw [List.length_append,List.flatMap_append]
      exact HO.out
    case measure=>simp [intOf];omega
   ·have hkk:k=L.length:=by omega
    have hT:L.take k=L:=by rw [hkk,List.take_length]
    rw [hT] at HROOM HOWN
    obtain ⟨s0,s1,s2,s3,s4⟩:=HROOM.out.srcc hn
    have f0:=HROOM.out.unfrozen (9+n*5)
    have f1:=HROOM.out.unfrozen (9+n*5+1)
    have f2:=HROOM.out.unfrozen (9+n*5+2)
    have f3:=HROOM.out.unfrozen (9+n*5+3)
    have f4:=HROOM.out.unfrozen (9+n*5+4)
    clear hT hrow
    generalize goneGo n L R=G at *
    go_wp2
    go_ret
    rw [HG0.out]
    exact ⟨⟨_,rfl,(Row.of_owns HOWN.out).fr (((((((Fr.refl wr.heap.size (· = b) wr).setAt _ _).setAt _ _).setAt _ _).setAt _ _).setAt _ _)) (Nat.le_refl _) (HROOM.out.typ (by decide))⟩,HROOM.out.setSrc hn noSrc (Row.nil _ _),(((((HFR.out.setAt _ _).setAt _ _).setAt _ _).setAt _ _).setAt _ _)⟩
end Go.Proofs.Rm
namespace Go.Proofs.Rm
open Go.RowKit Go.Proofs.Heap Go.Proofs.Mem
theorem below_drewN {B:Nat} {a w:World} (h:Below B a w):∀ q,Below B a (w.drewN q)
 | 0=>h
 | q+1=>(below_drewN h q).drew
set_option maxHeartbeats 1000000 in
theorem layer_any (b:Nat) (R:Room) (o:Op) (sa ba:Option Addr) (sl sc bl bc:Nat) (w:World) (hR:RoomAt w b R) (hs:1≤o.source∧o.source<9) :
  Calls Tryz.prog 164 #[.pointer (some ⟨b,0,none⟩),.agg #[.int .i64 o.kind,.int .i64 o.peer,.int .i64 o.source,.int .i64 o.layer,.string (str o.name),.slice sa sl sc,.slice ba bl bc]] w fun e w'=>e = .returned (.int .i64 (layer R o))∧Below w.heap.size w w':=by
 obtain ⟨k,p,n,q,nm,ss⟩:=o
 obtain ⟨n,rfl⟩:=Int.eq_ofNat_of_zero_le (show 0≤n by have:=hs.1;dsimp only at this;omega)
 have hn:n<9:=by have:=hs.2;dsimp only at this;omega
 obtain ⟨s0,s1,s2,s3,s4⟩:=hR.srcc hn
 have hb:=hR.lt
 have HL:Hid (layer R ⟨k,p,n,q,nm,ss⟩=if q<0∨((R.src n).ss.length:Int)≤q then 5 else 0):=rfl
 have hlen:=(hR.rows n hn).len
 obtain ⟨va,vc,hsv,hx⟩:=hR.rows n hn
 rw [hsv] at s3
 clear hR hs hx hsv
 generalize (R.src n).ss.length=L at *
 dsimp only
 by_cases h1:q<0
 ·have HF:Hid (layer R ⟨k,p,n,q,nm,ss⟩=5):=by show _=_;rw [HL.out,if_pos (Or.inl h1)]
  exact Yx65
 ·by_cases h2:(L:Int)≤q
  ·have HF:Hid (layer R ⟨k,p,n,q,nm,ss⟩=5):=by show _=_;rw [HL.out,if_pos (Or.inr h2)]
   have hd1:decide (q<0)=false:=decide_eq_false h1
   have hd2:decide ((L:Int)≤q)=true:=decide_eq_true h2
   exact Yx65
  ·have HF:Hid (layer R ⟨k,p,n,q,nm,ss⟩=0):=by show _=_;rw [HL.out,if_neg (by omega)]
   have hd1:decide (q<0)=false:=decide_eq_false h1
   have hd2:decide ((L:Int)≤q)=false:=decide_eq_false h2
   exact Yx65
end Go.Proofs.Rm
namespace Go.Proofs.Rm
open Go.RowKit Go.Proofs.Heap Go.Proofs.Mem
set_option maxHeartbeats 2000000 in
theorem heard_any (b:Nat) (R:Room) (o:Op) (sa ba:Option Addr) (sl sc bl bc:Nat) (w:World) (hR:RoomAt w b R) (hs:1≤o.source∧o.source<9) (hp:1≤o.peer∧o.peer<9) :
  Calls Tryz.prog 165 #[.pointer (some ⟨b,0,none⟩),.agg #[.int .i64 o.kind,.int .i64 o.peer,.int .i64 o.source,.int .i64 o.layer,.string (str o.name),.slice sa sl sc,.slice ba bl bc]] w fun e w'=>e = .returned (.int .i64 (heard R o))∧Below w.heap.size w w':=by
 have CL:=Lib.hid (fun (w1:World) (h:Below w.heap.size w w1)=>layer_any b R o sa ba sl sc bl bc w1 (hR.below h) hs)
 obtain ⟨k,p,n,q,nm,ss⟩:=o
 obtain ⟨n,rfl⟩:=Int.eq_ofNat_of_zero_le (show 0≤n by have:=hs.1;dsimp only at this;omega)
 obtain ⟨p,rfl⟩:=Int.eq_ofNat_of_zero_le (show 0≤p by have:=hp.1;dsimp only at this;omega)
 have hn:n<9:=by have:=hs.2;dsimp only at this;omega
 have hp9:p<9:=by have:=hp.2;dsimp only at this;omega
 obtain ⟨c0,c1,c2⟩:=hR.subc hn hp9
 have hb:=hR.lt
 have HL:Hid (heard R ⟨k,p,n,q,nm,ss⟩=(let x:=R.sub n p
   if !x.there then 8 else if k=10∧x.paused=true then 9 else if k=11∧x.paused=false then 11 else if k≠12 then 0
   else if layer R ⟨k,p,n,q,nm,ss⟩≠0 then layer R ⟨k,p,n,q,nm,ss⟩ else if x.want=q then 9 else 0)):=rfl
 clear hR hs hp
 dsimp only at CL HL ⊢
 generalize layer R ⟨k,p,n,q,nm,ss⟩=ly at *
 generalize heard R ⟨k,p,n,q,nm,ss⟩=hd at *
 generalize (R.sub n p).there=t0 at *
 generalize (R.sub n p).paused=t1 at *
 generalize (R.sub n p).want=t2 at *
 go_enter Tryz.func165,Tryz.ntmps165
 go_wp2
 go_region
 go_wp2_with (go_at_call 164;refine (CL.out _ Yo8).mono ?_;rintro e w1 ⟨rfl,hb1⟩;obtain ⟨hcl,hfz⟩:=bcell hb1)
 all_goals (go_ret;refine ⟨ret_int ?_,?_⟩)
 all_goals try (refine Below.trans ?_ (hb1.mono Yo16))
 all_goals try (refine Below.drew ?_)
 all_goals try (refine Below.alloc (Below.alloc (Below.refl _ _) (Nat.le_refl _) _) (by simp) _)
 all_goals (rw [HL.out];first|(simp [*];done)|(simp_all;done)|skip)
end Go.Proofs.Rm
namespace Go.Proofs.Rm
open Go.RowKit Go.Proofs.Heap Go.Proofs.Mem
set_option maxHeartbeats 4000000 in
theorem about_any (b:Nat) (R:Room) (o:Op) (sa ba:Option Addr) (sl sc bl bc:Nat) (w:World) (hR:RoomAt w b R) (hs:1≤o.source∧o.source<9) (hp:1≤o.peer∧o.peer<9) :
  Calls Tryz.prog 135 #[.pointer (some ⟨b,0,none⟩),.agg #[.int .i64 o.kind,.int .i64 o.peer,.int .i64 o.source,.int .i64 o.layer,.string (str o.name),.slice sa sl sc,.slice ba bl bc]] w fun e w'=>e = .returned (.int .i64 (about R o))∧Below w.heap.size w w':=by
 have CL:=Lib.hid (fun (w1:World) (h:Below w.heap.size w w1)=>layer_any b R o sa ba sl sc bl bc w1 (hR.below h) hs)
 have CH:=Lib.hid (fun (w1:World) (h:Below w.heap.size w w1)=>heard_any b R o sa ba sl sc bl bc w1 (hR.below h) hs hp)
 obtain ⟨k,p,n,q,nm,ss⟩:=o
 obtain ⟨n,rfl⟩:=Int.eq_ofNat_of_zero_le (show 0≤n by have:=hs.1;dsimp only at this;omega)
 obtain ⟨p,rfl⟩:=Int.eq_ofNat_of_zero_le (show 0≤p by have:=hp.1;dsimp only at this;omega)
 have hn:n<9:=by have:=hs.2;dsimp only at this;omega
 have hp9:p<9:=by have:=hp.2;dsimp only at this;omega
 obtain ⟨c0,c1,c2⟩:=hR.subc hn hp9
 obtain ⟨s0,s1,s2,s3,s4⟩:=hR.srcc hn
 have hb:=hR.lt
 have HL:Hid (about R ⟨k,p,n,q,nm,ss⟩=(if k=5∨k=8∨k=9 then
   (if (R.src n).own≠p then 10 else if k=8∧(R.src n).muted=true then 9 else if k=9∧(R.src n).muted=false then 11 else 0)
  else if k=6 then (if (R.src n).own=p then 10 else if (R.sub n p).there then 9 else layer R ⟨k,p,n,q,nm,ss⟩)
  else heard R ⟨k,p,n,q,nm,ss⟩)):=rfl
 obtain ⟨va,vc,hsv,hx⟩:=hR.rows n hn
 rw [hsv] at s3
 clear hR hs hp hsv hx
 dsimp only at CL CH HL ⊢
 generalize layer R ⟨k,p,n,q,nm,ss⟩=ly at *
 generalize heard R ⟨k,p,n,q,nm,ss⟩=hd at *
 generalize about R ⟨k,p,n,q,nm,ss⟩=ab at *
 generalize (R.sub n p).there=t0 at *
 generalize (R.src n).there=u0 at *
 generalize (R.src n).num=u1 at *
 generalize (R.src n).own=u2 at *
 generalize (R.src n).muted=u4 at *
 generalize (R.src n).ss.length=vl at *
 go_enter Tryz.func135,Tryz.ntmps135
 go_wp2
 go_region
 go_wp2_with (first|(go_at_call 164;refine (CL.out _ Yo8).mono ?_;rintro e w1 ⟨rfl,hb1⟩)|(go_at_call 165;refine (CH.out _ Yo8).mono ?_;rintro e w1 ⟨rfl,hb1⟩))
 all_goals try (go_region;go_wp2_with (first|(go_at_call 164;refine (CL.out _ Yo8).mono ?_;rintro e w1 ⟨rfl,hb1⟩)|(go_at_call 165;refine (CH.out _ Yo8).mono ?_;rintro e w1 ⟨rfl,hb1⟩)))
 all_goals (go_ret;refine ⟨ret_int ?_,?_⟩)
 all_goals try (refine Below.trans ?_ (hb1.mono Yo16))
 all_goals try (refine Below.drew ?_)
 all_goals try (refine Below.drew ?_)
 all_goals try (refine Below.alloc (Below.alloc (Below.refl _ _) (Nat.le_refl _) _) (by simp) _)
 all_goals try (rw [HL.out];first|(simp [*];done)|(simp_all;done)|skip)
 go_goals
end Go.Proofs.Rm
namespace Go.Proofs.Rm
open Go.RowKit Go.Proofs.Heap Go.Proofs.Mem
theorem index_neg {l:List Int} {x:Int}:decide (0≤index l x)=l.contains x:=by
 unfold index
 cases h:l.findIdx? (fun y=>y == x) with
 | none=>
  have:=List.findIdx?_eq_none_iff.1 h
  have hx:l.contains x=false:=by
   rw [Bool.eq_false_iff];intro hc
   have:=this x (by simpa using hc)
   simp at this
  rw [hx];rfl
 | some i=>
  have hx:l.contains x=true:=by
   obtain ⟨hi,h1,_⟩:=List.findIdx?_eq_some_iff_getElem.1 h
   have:l[i]=x:=by simpa using h1
   rw [List.contains_iff_mem,←this];exact List.getElem_mem hi
  rw [hx];simp
theorem Contains_any (v:Value) (l:List Int) (x:Int) (w:World) (hv:RRow w v l.length (u32s l)) :
  Calls Tryz.prog 163 #[v,.int .u32 x] w fun e w'=>e = .returned (.bool (l.contains x))∧w=w':=by
 have CI:=Lib.hid (Index_any v l x w hv)
 have HN:Hid (decide (0≤index l x)=l.contains x):=index_neg
 clear hv
 generalize index l x=q at *
 go_enter Tryz.func163,Tryz.ntmps163
 go_wp2_with (go_at_call 156;refine CI.out.mono ?_;rintro e w1 ⟨rfl,rfl⟩)
 all_goals go_ret
 all_goals exact ⟨ret_bool (by rw [←HN.out]),rfl⟩
theorem u32_take {w:World} {g off n cap:Nat} {l:List Int} (h:RRow w (.slice (some ⟨g,off,none⟩) n cap) l.length (u32s l)) (k:Nat) (hk:k≤l.length):RRow w (.slice (some ⟨g,off,none⟩) k cap) (l.take k).length (u32s (l.take k)):=by
 obtain ⟨a,cap',hv,h1,h2,h3,h4⟩:=h
 injection hv with ha hn hc
 subst hc
 have hl:(l.take k).length=k:=by rw [List.length_take];omega
 refine ⟨some ⟨g,off,none⟩,cap,by rw [hl],by rw [hl];omega,h2,(fun h=>by cases h),?_⟩
 by_cases hz:k=0
 ·subst hz;exact Or.inl rfl
 ·rcases h4 with h4|⟨b,o,hab,hlt,hcc⟩
  ·have:(u32s l).length=0:=by rw [h4];rfl
   rw [u32s_length] at this;omega
  ·refine Or.inr ⟨b,o,by rw [ha,hab],hlt,fun j hj=>?_⟩
   rw [u32s_length,hl] at hj
   rw [hcc j (by rw [u32s_length];omega)]
   simp [u32s,List.getElem?_take_of_lt hj]
theorem twice_split (R:Room) (l:List Int) (k:Nat):twice R l k=((of R (l.getD k 0)).2.2 || (l.take k).contains (l.getD k 0)):=rfl
set_option maxHeartbeats 4000000 in
theorem publishes_any (b:Nat) (R:Room) (o:Op) (sa ba:Option Addr) (sc bl bc:Nat) (w:World) (hR:RoomAt w b R) (hs:1≤o.source∧o.source<9)
  (hrow:RRow w (.slice sa o.ssrcs.length sc) o.ssrcs.length (u32s o.ssrcs)) :
  Calls Tryz.prog 134 #[.pointer (some ⟨b,0,none⟩),.agg #[.int .i64 o.kind,.int .i64 o.peer,.int .i64 o.source,.int .i64 o.layer,.string (str o.name),.slice sa o.ssrcs.length sc,.slice ba bl bc]] w fun e w'=>e = .returned (.int .i64 (publishes R o))∧Below w.heap.size w w':=by
 have CO:=Lib.hid (fun (w1:World) (x:Int) (h:Below w.heap.size w w1)=>Of_any b R x w1 (hR.below h))
 obtain ⟨kd,p,n,q,nm,ss⟩:=o
 obtain ⟨n,rfl⟩:=Int.eq_ofNat_of_zero_le (show 0≤n by have:=hs.1;dsimp only at this;omega)
 have hn:n<9:=by have:=hs.2;dsimp only at this;omega
 obtain ⟨s0,s1,s2,s3,s4⟩:=hR.srcc hn
 have hb:=hR.lt
 have HP:Hid (publishes R ⟨kd,p,n,q,nm,ss⟩=(if ss.length<1∨3<ss.length then 5 else if ss.any (fun s=>decide (s<2) || decide (3221225472≤s)) then 5 else if (R.src n).there then 9 else if (List.range ss.length).any (twice R ss) then 9 else 0)):=rfl
 dsimp only at *
 have hlen:=hrow.len
 clear hR hs s1 s2 s3 s4
 generalize publishes R ⟨kd,p,n,q,nm,ss⟩=pub at *
 generalize (R.src n).there=u0 at *
 by_cases h1:ss.length<1
 ·have HF:Hid (pub=5):=by show _=_;rw [HP.out,if_pos (Or.inl h1)]
  exact Yx146
 by_cases h2:3<ss.length
 ·have HF:Hid (pub=5):=by show _=_;rw [HP.out,if_pos (Or.inr h2)]
  exact Yx146
 have HP2:Hid (pub=(if ss.any (fun s=>decide (s<2) || decide (3221225472≤s)) then 5 else if u0 then 9 else if (List.range ss.length).any (twice R ss) then 9 else 0)):=by
  show _=_;rw [HP.out,if_neg (by omega)]
 obtain ⟨g,off,cap,e1,_,_,hg,hcells⟩:=u32_openR hrow (by omega)
 cases e1
 have HC:=Lib.hid hcells
 have HROW:=Lib.hid hrow
 clear hcells hrow HP
 go_enter Tryz.func134,Tryz.ntmps134
 go_wp2
 go_loop [25] (fun i=>∃ k:Nat,k≤ss.length∧i = .int .i64 k∧Hid (∀ j,j<k→2≤ss.getD j 0∧ss.getD j 0<3221225472)) (fun i=>ss.length-(intOf i).toNat)
 case atStart=>exact ⟨0,Nat.zero_le _,rfl,fun j hj=>by omega⟩
 case round=>
  obtain ⟨k,hk,rfl,hno⟩:=hrel
  by_cases hkl:k<ss.length
  ·exact Yx45
  ·have HP3:Hid (pub=if u0 then 9 else if (List.range ss.length).any (twice R ss) then 9 else 0):=by
    exact Yx116
   clear hno HP2
   cases u0
   ·have HP4:Hid (pub=if (List.range ss.length).any (twice R ss) then 9 else 0):=by show _=_;rw [HP3.out];rfl
    clear HP3
    go_wp2
    go_quiet (fail)
    go_wp2
    go_loopw [47] (fun i w'=>∃ k:Nat,k≤ss.length∧i = .int .i64 k∧Below w.heap.size w w'∧w.heap.size<w'.heap.size∧w'.cell? ⟨w.heap.size,5,none⟩=some (.slice (some ⟨g,off,none⟩) ss.length sc)∧Hid (∀ j,j<k→twice R ss j=false)) (fun i _=>ss.length-(intOf i).toNat)
    case atStart=>exact ⟨0,Nat.zero_le _,rfl,below_drewN (below_alloc _ _) _,by simp,by simp,fun j hj=>by omega⟩
    case round=>
     obtain ⟨k,hk,rfl,hbl,hsz,hbox,hno⟩:=hrel
     by_cases hkl:k<ss.length
     ·have hrowr:=HROW.out.below hbl
      obtain ⟨g',off',cap',e1,_,_,hg',hcells⟩:=u32_openR hrowr (by omega)
      cases e1
      have hc:=hcells k hkl
      have CO1:=Lib.hid (CO.out wr (ss.getD k 0) hbl)
      have CC:Hid (∀ w1,Below wr.heap.size wr w1→Calls Tryz.prog 163 #[.slice (some ⟨g,off,none⟩) k sc,.int .u32 (ss.getD k 0)] w1 fun e w'=>e = .returned (.bool ((ss.take k).contains (ss.getD k 0)))∧w1=w'):=
       fun w1 h=>Contains_any _ (ss.take k) _ w1 (u32_take (hrowr.below h) k hk)
      have HTW:=Lib.hid (twice_split R ss k)
      have HNIN:Hid (twice R ss k=true→pub=9):=by
       intro h
       rw [HP4.out,if_pos]
       rw [List.any_eq_true]
       exact ⟨k,by simpa using hkl,h⟩
      clear hcells hrowr
      generalize of R (ss.getD k 0)=O at *
      obtain ⟨o1,o2,o3⟩:=O
      dsimp only at CO1 HTW
      generalize hcn:(ss.take k).contains (ss.getD k 0)=cn at *
      clear hcn
      generalize ss.getD k 0=x at *
      cases o3
      ·cases cn
       ·have HF:Hid (twice R ss k=false):=by show _=_;rw [HTW.out];rfl
        go_wp2_with (first|(go_at_call 127;refine CO1.out.mono ?_;rintro e w2 ⟨rfl,hb2⟩;have hbox2:=(hb2.cell (p:=⟨w.heap.size,5,none⟩) hsz).trans hbox)|(go_at_call 163;refine (CC.out _ hb2).mono ?_;rintro e w3 ⟨rfl,rfl⟩))
        exact Yx111
       ·have HF:=Lib.hid (HNIN.out (by rw [HTW.out];rfl))
        go_wp2_with (first|(go_at_call 127;refine CO1.out.mono ?_;rintro e w2 ⟨rfl,hb2⟩;have hbox2:=(hb2.cell (p:=⟨w.heap.size,5,none⟩) hsz).trans hbox)|(go_at_call 163;refine (CC.out _ hb2).mono ?_;rintro e w3 ⟨rfl,rfl⟩))
        go_ret
        exact ⟨ret_int HF.out.symm,hbl.trans (hb2.mono hbl.size)⟩
      ·have HF:=Lib.hid (HNIN.out (by rw [HTW.out];rfl))
       go_wp2_with (first|(go_at_call 127;refine CO1.out.mono ?_;rintro e w2 ⟨rfl,hb2⟩;have hbox2:=(hb2.cell (p:=⟨w.heap.size,5,none⟩) hsz).trans hbox))
       go_ret
       exact ⟨ret_int HF.out.symm,hbl.trans (hb2.mono hbl.size)⟩
     ·exact Yx123
   ·have HF:Hid (pub=9):=by show _=_;rw [HP3.out];rfl
    go_wp2
    go_quiet (fail)
    go_wp2
    go_ret
    exact ⟨ret_int HF.out.symm,below_drewN (below_alloc _ _) _⟩
end Go.Proofs.Rm
