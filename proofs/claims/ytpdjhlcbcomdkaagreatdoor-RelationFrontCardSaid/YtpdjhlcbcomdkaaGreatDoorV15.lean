/- Several texts in one: The walk of door.datagram: feedback. -/
import Derived.Test.YtpdjhlcbcomdkaaGreatDoorV01
import Derived.Test.YtpdjhlcbcomdkaaGreatDoorV02
import Derived.Test.YtpdjhlcbcomdkaaGreatDoorV11
import Derived.Test.YtpdjhlcbcomdkaaGreatDoorV14
set_option linter.unusedVariables false
set_option linter.unusedSimpArgs false
set_option linter.unusedSimpArgs false
namespace Go.Proofs.By
open Go.RowKit Go.Proofs.Heap
open Go.Proofs.Rm (TurnRow Turn Room RoomAt Inv Slim joined Joined_any turnCells elemTurn turns_len turns_one owns_fr own_le)
theorem owns_block {w w':World} {base:Nat} {e:TypeId} {size:Nat} {v:Value} {n:Nat} {xs:List Value} (h:w.ownsRow base e size v n xs) (hb:∀ k,v.ownBlock=some k→w'.heap[k]?=w.heap[k]?):w'.ownsRow base e size v n xs:=by
 obtain ⟨hl,h⟩:=h
 refine ⟨hl,?_⟩
 rcases h with h|⟨g,cap,cur,rfl,hg,hh,h1,h2,h3,h4⟩
 ·exact Or.inl h
 ·exact Or.inr ⟨g,cap,cur,rfl,hg,(hb g rfl).trans hh,h1,h2,h3,h4⟩
theorem ItmsV.below {w w':World} {v:Value} {L:List ItmV} (h:ItmsV w v L) (hb:Below w.heap.size w w'):ItmsV w' v L:=⟨h.row.below hb,fun x hx=>(h.each x hx).below hb⟩
theorem ItmsV.fr {w w':World} {v:Value} {L:List ItmV} {S:Nat→Prop} (h:ItmsV w v L) (hf:Fr w.heap.size S w w') (hS:Apart w S):ItmsV w' v L:=
 ⟨Row.fr h.row hf (Nat.le_refl _) (hS.ne (by simp)),fun x hx=>⟨Row.fr (h.each x hx).b hf (Nat.le_refl _) (hS.ne (by simp)),Row.fr (h.each x hx).g hf (Nat.le_refl _) (hS.ne (by simp)),Row.fr (h.each x hx).p hf (Nat.le_refl _) (hS.ne (by simp))⟩⟩
def tcells (iv tv u:Value):Array Value:=#[.int .i64 0,.int .i64 0,.int .i64 0,.int .i64 0,.bool false,.int .i64 0,.int .u16 0,.int .u32 0,.int .u32 0,.slice none 0 0,.bool false,.int .u16 0,.slice none 0 0,.slice none 0 0,.int .i64 0,.int .i64 0,.bool false,.bool false,.int .u16 0,iv,tv,u]
structure DL (w w':World) (g b k:Nat) (ep:Int) (oc:Array Value) (iv:Value) (LV:List ItmV) (ctv:Value) (cu:Int) (tv:Value) (ts:List Turn) (Q:Room):Prop where
 fr:Fr w.heap.size (fun j=>j=b∨j=g) w w'
 op:w'.heap[w.heap.size]?=some (.cells oc 32 (0,0))
 z:w'.heap[w.heap.size+1]?=some (.cells Yz2a 100 (0,0))
 blk:w'.heap[k]?=some (.cells (tcells iv ctv (.int .i64 cu)) 100 (0,0))
 its:ItmsV w' iv LV
 own:w'.ownsRow w.heap.size 158 5 tv ts.length (ts.flatMap turnCells)
 door:DoorAt w' g b Q ep
 kl:w.heap.size+1<k
 bl:b<w.heap.size
 gl:g<w.heap.size
section
variable {w w1 w2:World} {g b k:Nat} {ep:Int} {oc:Array Value} {iv:Value} {LV:List ItmV} {ctv:Value} {cu:Int} {tv:Value} {ts:List Turn} {Q:Room}
theorem DL.below (h:DL w w1 g b k ep oc iv LV ctv cu tv ts Q) (hb:Below w1.heap.size w1 w2):DL w w2 g b k ep oc iv LV ctv cu tv ts Q:=
 ⟨h.fr.trans (Fr.of_below _ (hb.mono h.fr.size)),(hb.block _ (hp_lt h.op)).trans h.op,(hb.block _ (hp_lt h.z)).trans h.z,(hb.block _ (hp_lt h.blk)).trans h.blk,h.its.below hb,owns_bel h.own hb,h.door.below hb,h.kl,h.bl,h.gl⟩
theorem DL.item (h:DL w w1 g b k ep oc iv LV ctv cu tv ts Q) {Q':Room} (hr:RoomAt w2 b Q') (hf:Fr w1.heap.size (· = b) w1 w2):DL w w2 g b k ep oc iv LV ctv cu tv ts Q':=by
 have hb:=h.bl
 have hk:=h.kl
 exact ⟨h.fr.trans (hf.mono h.fr.size (fun _ _ h=>Or.inl h)),(hf.block _ (hp_lt h.op) (by omega)).trans h.op,(hf.block _ (hp_lt h.z) (by omega)).trans h.z,(hf.block _ (hp_lt h.blk) (by omega)).trans h.blk,h.its.fr hf (fun j hj=>h.door.apart j (Or.inl hj)),owns_fr h.own hf (fun j hj=>by have hj:j=b:=hj;omega),⟨(hf.block g (hp_lt h.door.blk) h.door.ne).trans h.door.blk,hr⟩,h.kl,h.bl,h.gl⟩
theorem DL.grown (h:DL w w1 g b k ep oc iv LV ctv cu tv ts Q) (hg:w1.grownBy w2 tv.ownBlock) {tv':Value} {ts':List Turn} (ho:w2.ownsRow w.heap.size 158 5 tv' ts'.length (ts'.flatMap turnCells)):DL w w2 g b k ep oc iv LV ctv cu tv' ts' Q:=by
 have hne:∀ {j c e f},w1.heap[j]?=some (.cells c e f)→e≠158→tv.ownBlock≠some j:=fun hj he ho=>owns_typ h.own he _ _ _ ho hj
 have hf:=fr_grown hg
 have ht:∀ e,e≠158→∀ j c fr,tv.ownBlock=some j→w1.heap[j]?≠some (.cells c e fr):=fun e he=>owns_typ h.own he
 exact ⟨h.fr.grown hg h.fr.size (own_le h.own),(hg.block _ (hp_lt h.op) (fun e=>hne h.op (by decide) e.symm)).trans h.op,(hg.block _ (hp_lt h.z) (fun e=>hne h.z (by decide) e.symm)).trans h.z,(hg.block _ (hp_lt h.blk) (fun e=>hne h.blk (by decide) e.symm)).trans h.blk,
  ⟨Row.fr h.its.row hf (Nat.le_refl _) (ht _ (by decide)),fun x hx=>(h.its.each x hx).frT hf (ht _ (by decide)) (ht _ (by decide)) (ht _ (by decide))⟩,ho,
  ⟨(hg.block _ (hp_lt h.door.blk) (fun e=>hne h.door.blk (by decide) e.symm)).trans h.door.blk,RoomAt.grown h.door.room h.own hg h.bl (by decide)⟩,h.kl,h.bl,h.gl⟩
theorem DL.set (h:DL w w1 g b k ep oc iv LV ctv cu tv ts Q) (o:Nat) (v ctv':Value) (cu':Int) (hc:(tcells iv ctv (.int .i64 cu)).setIfInBounds o v=tcells iv ctv' (.int .i64 cu')):DL w (w1.setCell ⟨k,o,none⟩ v) g b k ep oc iv LV ctv' cu' tv ts Q:=by
 have hk:=h.kl
 have hb:=h.bl
 have hgl:=h.gl
 have hf:Fr w1.heap.size (· = k) w1 (w1.setCell ⟨k,o,none⟩ v):=(Fr.refl _ _ _).setAt _ _
 have hty:∀ e,100≠e→∀ j c fr,j=k→w1.heap[j]?≠some (.cells c e fr):=by
  intro e he j c fr hj hc
  rw [hj,h.blk] at hc
  injection hc with hc
  injection hc with _ hc
  exact he hc
 have hset:=hp_set h.blk o v
 rw [hc] at hset
 exact ⟨h.fr.setCell (p:=⟨k,o,none⟩) (Or.inl (by show _≤k;omega)) _,(hf.block _ (hp_lt h.op) (by omega)).trans h.op,(hf.block _ (hp_lt h.z) (by omega)).trans h.z,hset,
  h.its.fr hf (fun j hj=>by have hj:j=k:=hj;subst hj;exact ⟨_,_,_,h.blk,by decide,by decide,by decide,by decide,by decide,by decide,by decide⟩),
  owns_block h.own (fun j hj=>by
   by_cases hjk:j=k
   ·subst hjk;exact absurd h.blk (owns_typ h.own (by decide) _ _ _ hj)
   ·exact RowKit.Below.heap_setCell w1 ⟨k,o,none⟩ _ j hjk),
  ⟨(hf.block g (hp_lt h.door.blk) (by omega)).trans h.door.blk,h.door.room.fr hf (Nat.le_refl _) (by omega) (hty _ (by decide))⟩,h.kl,h.bl,h.gl⟩
theorem DL.facts (h:DL w w1 g b k ep oc iv LV ctv cu tv ts Q):w1.cell? ⟨k,20,none⟩=some ctv∧w1.cell? ⟨k,21,none⟩=some (.int .i64 cu)∧w1.frozen? ⟨k,20,none⟩=false∧w1.frozen? ⟨k,21,none⟩=false:=
 ⟨by rw [cell_of h.blk 20];rfl,by rw [cell_of h.blk 21];rfl,frozen_of h.blk 20,frozen_of h.blk 21⟩
end
theorem take_snocM {α:Type} {l:List α} {k:Nat} {x:α} (h:l[k]?=some x):l.take (k+1)=l.take k++[x]:=by
 obtain ⟨h1,h2⟩:=List.getElem?_eq_some_iff.1 h
 rw [List.take_succ_eq_append_getElem h1,h2]
set_option maxRecDepth 100000 in
set_option maxHeartbeats 8000000 in
theorem datagram_feed (g b:Nat) (R:Room) (ep kd peer src ly:Int) (nm:ByteArray) (sa ba:Option Addr) (sl sc bl bc:Nat) (l:List UInt8) (w:World) (hD:DoorAt w g b R ep) (hI:Inv R) (hS:Slim R) (h0:0≤ep) (h9:ep<1000000000) (hv:BRow w (.slice ba bl bc) l) (h3:192≤at8 l 1∧at8 l 1≤223) :
  Calls Tryz.prog 76 #[.pointer (some ⟨g,0,none⟩),.agg #[.int .i64 kd,.int .i64 peer,.int .i64 src,.int .i64 ly,.string nm,.slice sa sl sc,.slice ba bl bc]] w fun e w'=>(∃ cs:List Value,e = .returned (.agg cs.toArray)∧TakenIn w' cs (datagram R ep peer l).1.1)∧DoorAt w' g b (datagram R ep peer l).1.2 (datagram R ep peer l).2∧Fr w.heap.size (fun k=>k=b∨k=g) w w':=by
 have HX:Hid (datagram R ep peer l=if (sift l).2≠0 then ((refusedT 3 (sift l).2,R),ep) else if !joined R peer then ((refusedT 4 0,R),ep) else match (sift l).1 with
  | .media p d=>((mediaT R ep peer p d,R),ep)
  | .feedback l=>((feedT (ep+1) l (itemsDo peer l R).1.1 (itemsDo peer l R).2,(itemsDo peer l R).1.2),ep+1)
  | .none=>((feedT (ep+1) [] [] 0,R),ep+1)):=rfl
 have HSM:Hid ((sift l).2=0→(sift l).1 = .feedback (itemsGet l).1):=fun h=>sift_feed h3 h
 have HOK:=Lib.hid (itemsGet_ok l)
 have hgl:=hD.cells.2.2.2
 have hbl:=hD.room.lt
 have hgb:=hD.ne
 have hxb:((w.alloc (.cells #[.int .i64 kd,.int .i64 peer,.int .i64 src,.int .i64 ly,.string nm,.slice sa sl sc,.slice ba bl bc] 32)).alloc (.cells Yz2a 100)).heap[w.heap.size]?=some (.cells #[.int .i64 kd,.int .i64 peer,.int .i64 src,.int .i64 ly,.string nm,.slice sa sl sc,.slice ba bl bc] 32 (0,0)):=by
  rw [(below_alloc _ _).block _ Yo11]
  exact heap_new w _
 have hz:((w.alloc (.cells #[.int .i64 kd,.int .i64 peer,.int .i64 src,.int .i64 ly,.string nm,.slice sa sl sc,.slice ba bl bc] 32)).alloc (.cells Yz2a 100)).heap[w.heap.size+1]?=some (.cells Yz2a 100 (0,0)):=by
  exact Yx49
 have hbw:Below w.heap.size w ((w.alloc (.cells #[.int .i64 kd,.int .i64 peer,.int .i64 src,.int .i64 ly,.string nm,.slice sa sl sc,.slice ba bl bc] 32)).alloc (.cells Yz2a 100)):=bel_alloc (below_alloc w _) (Nat.le_refl _) _
 have HD0:=Lib.hid hD
 have HD1:Hid (DoorAt ((w.alloc (.cells #[.int .i64 kd,.int .i64 peer,.int .i64 src,.int .i64 ly,.string nm,.slice sa sl sc,.slice ba bl bc] 32)).alloc (.cells Yz2a 100)) g b R ep):=hD.below hbw
 have CS:=Lib.hid (siftOf_any _ l ((w.alloc (.cells #[.int .i64 kd,.int .i64 peer,.int .i64 src,.int .i64 ly,.string nm,.slice sa sl sc,.slice ba bl bc] 32)).alloc (.cells Yz2a 100)) (hv.below hbw))
 have HXB:=Lib.hid hxb
 have HZ:=Lib.hid hz
 have HBW:=Lib.hid hbw
 clear hD hv hxb hz hbw h3
 generalize datagram R ep peer l=X at *
 generalize sift l=Y at *
 generalize (itemsGet l).1=IL at *
 obtain ⟨ev,er⟩:=Y
 dsimp only at HX HSM CS
 go_enter Tryz.func76,Tryz.ntmps76
 go_upto_region 2 with (go_at_call 105;refine CS.out.mono ?_;rintro e w2 ⟨⟨a,rfl,hev⟩,hb2⟩;have HEV:=Lib.hid hev;have HB2:=Lib.hid hb2;clear hev hb2)
 clear CS
 generalize ((w.alloc (.cells #[.int .i64 kd,.int .i64 peer,.int .i64 src,.int .i64 ly,.string nm,.slice sa sl sc,.slice ba bl bc] 32)).alloc (.cells Yz2a 100))=w1 at *
 have KEEP:Hid (∀ w',Below w1.heap.size w1 w'→w'.cell? ⟨g,0,none⟩=some (.pointer (some ⟨b,0,none⟩))∧w'.cell? ⟨w.heap.size,1,none⟩=some (.int .i64 peer)):=fun w' h=>
  ⟨(HD1.out.below h).cells.1,by rw [cell_of ((h.block w.heap.size (hp_lt HXB.out)).trans HXB.out) 1];rfl⟩
 have HEND:Hid (∀ w' cs T,Below w.heap.size w w'→TakenIn w' cs T→X=((T,R),ep)→(∃ cs':List Value,Ending.returned (.agg cs.toArray) = .returned (.agg cs'.toArray)∧TakenIn w' cs' X.1.1)∧DoorAt w' g b X.1.2 X.2∧Fr w.heap.size (fun k=>k=b∨k=g) w w'):=fun w' cs T h1 h2 h3=>by
  rw [h3];exact ⟨⟨cs,rfl,h2⟩,HD0.out.below h1,Fr.of_below _ h1⟩
 by_cases her:er=0
 ·subst her
  rw [if_neg (by simp)] at HX
  have hpd:=HSM.out rfl
  subst hpd
  dsimp only at HX
  have HJ:=Lib.hid (Joined_any b R peer w2.drew ((HD1.out.room.below HB2.out).below (Below.refl _ _).drew))
  go_upto_region 4 with fail
  refine wp_region_noPanic ?_
  refine wp_region_held_drew (S:=(fun w'=>w'.cell? ⟨g,0,none⟩=some (.pointer (some ⟨b,0,none⟩))∧w'.cell? ⟨w.heap.size,1,none⟩=some (.int .i64 peer))) Yo3 ?_ (fun hHeld0=>?_)
  ·(try dsimp only)
   exact KEEP.out _ HB2.out.drew
  refine YA 0 (h:=YA 1 (h:=YA 2 (h:=YA 3 (h:=YA 4 (h:=YA 5 (h:=?_))))))
  refine YHR 6 (h:=fun K hK=>?_)
  go_simp
  refine HJ.out.mono ?_
  rintro e w' ⟨rfl,rfl⟩
  go_wp2_with fail
  refine hK.out _ _ ?_ (fun hHeld1=>?_)
  ·(try dsimp only)
   exact KEEP.out _ HB2.out.drew
  clear hK K
  try simp only [AnyT.pt]
  refine YA 7 (h:=?_)
  refine wpAnyH_done Yo3 ?_ _
  refine NoPanic.normal ?_
  clear hHeld0 hHeld1 KEEP
  have HB3:Hid (Below w1.heap.size w1 w2.drew):=HB2.out.drew
  have HEV3:Hid (EvIn w2.drew a (.feedback IL)):=HEV.out.below (Below.refl _ _).drew
  clear HB2 HEV HJ
  generalize w2.drew=w3 at *
  clear w2
  by_cases hj:joined R peer=true
  ·rw [hj,if_neg (by simp)] at HX
   rw [hj]
   have as1:=as_media
   obtain ⟨iv,ha,hP⟩:=HEV3.out
   subst ha
   have hM:=heap_new w3 (.cells Yz4a 97)
   have HB4:Hid (Below w3.heap.size w3 ((w3.alloc (.cells Yz4a 97)).setRow w3.heap.size Yz4a)):=below_setRow (below_alloc w3 _) (Nat.le_refl _) _
   have HP:=Lib.hid hP
   clear HEV3 hP
   go_upto_region 9 with (with_reducible refine store_at 97 (.tmp 7) (.tmp 39) rfl ?_;refine store_rowTo2 rfl 97 (.tmp 7) (.tmp 39) rfl rfl w3.heap.size Yz4a rfl rfl 97 Yz4a hM Yo3 Yo3 Yo3 ?_)
   clear hM
   generalize ((w3.alloc (.cells Yz4a 97)).setRow w3.heap.size Yz4a)=w4 at *
   have CF:=Lib.hid (Flat_any iv IL w4 (HP.out.below HB4.out) HOK.out.1 (by have:=HOK.out.2;omega))
   have HB14:Hid (Below w1.heap.size w1 w4):=HB3.out.trans (HB4.out.mono HB3.out.size)
   clear HB3 HB4 HP
   go_upto_region 10 with (first|(go_at_call 107;refine CF.out.mono ?_;rintro e w5 ⟨⟨v',rfl,hit⟩,hb5⟩;have hs5:(w5.alloc (.cells Yz3a 79)).heap.size=w5.heap.size+1:=(by show (w5.heap.push _).size=_;rw [Array.size_push]);have hzp:((w5.alloc (.cells Yz3a 79)).alloc (.cells #[.int .i64 0,.bool false,.bool false,.int .u16 0] 81)).heap[w5.heap.size]?=some (.cells Yz3a 79 (0,0)):=(by rw [(below_alloc _ _).block _ (by rw [hs5];exact Nat.lt_succ_self _)];exact heap_new w5 _);have hzd:(((w5.alloc (.cells Yz3a 79)).alloc (.cells #[.int .i64 0,.bool false,.bool false,.int .u16 0] 81)).setRow w5.heap.size Yz3a).heap[w5.heap.size+1]?=some (.cells #[.int .i64 0,.bool false,.bool false,.int .u16 0] 81 (0,0)):=(by rw [setRow_other _ _ _ _ (by omega)];have h:=heap_new (w5.alloc (.cells Yz3a 79)) (.cells #[.int .i64 0,.bool false,.bool false,.int .u16 0] 81);rw [hs5] at h;exact h);have HB15:=Lib.hid (HB14.out.trans (hb5.mono HB14.out.size));have HIT:=Lib.hid hit;clear hit hb5)|(with_reducible refine store_at 79 (.tmp 9) (.tmp 50) rfl ?_;refine store_rowTo2 rfl 79 (.tmp 9) (.tmp 50) rfl rfl w5.heap.size Yz3a rfl rfl 79 Yz3a hzp Yo3 Yo3 Yo3 ?_)|(with_reducible refine store_at 81 (.tmp 10) (.tmp 51) rfl ?_;refine store_rowTo2 rfl 81 (.tmp 10) (.tmp 51) rfl rfl (w5.heap.size+1) #[.int .i64 0,.bool false,.bool false,.int .u16 0] rfl rfl 81 #[.int .i64 0,.bool false,.bool false,.int .u16 0] hzd Yo3 Yo3 Yo3 ?_))
   have HB56:Hid (Below w5.heap.size w5 ((((w5.alloc (.cells Yz3a 79)).alloc (.cells #[.int .i64 0,.bool false,.bool false,.int .u16 0] 81)).setRow w5.heap.size Yz3a).setRow (w5.heap.size+1) #[.int .i64 0,.bool false,.bool false,.int .u16 0])):=below_setRow (below_setRow (bel_alloc (below_alloc w5 _) (Nat.le_refl _) _) (Nat.le_refl _) _) (Nat.le_succ _) _
   have HIT6:=Lib.hid (HIT.out.below HB56.out)
   have HB16:Hid (Below w1.heap.size w1 ((((w5.alloc (.cells Yz3a 79)).alloc (.cells #[.int .i64 0,.bool false,.bool false,.int .u16 0] 81)).setRow w5.heap.size Yz3a).setRow (w5.heap.size+1) #[.int .i64 0,.bool false,.bool false,.int .u16 0])):=HB15.out.trans (HB56.out.mono HB15.out.size)
   clear hzp hzd hs5 HB56 HIT HB15 CF HB14
   generalize ((((w5.alloc (.cells Yz3a 79)).alloc (.cells #[.int .i64 0,.bool false,.bool false,.int .u16 0] 81)).setRow w5.heap.size Yz3a).setRow (w5.heap.size+1) #[.int .i64 0,.bool false,.bool false,.int .u16 0])=w6 at *
   obtain ⟨LV,hLV,hrow,heach⟩:=HIT6.out
   obtain ⟨va,vc,hv'⟩:=Row.form hrow
   subst hv'
   have hlen:LV.length≤8:=by have h:=HOK.out.2;rw [hLV,List.length_map] at h;exact h
   have hz12:=heap_new w6 (.cells Yz2a 100)
   go_upto_region 11 with (with_reducible refine store_at 100 (.tmp 12) (.tmp 54) rfl ?_;refine store_rowTo2 rfl 100 (.tmp 12) (.tmp 54) rfl rfl w6.heap.size #[.int .i64 0,.int .i64 0,.int .i64 0,.int .i64 0,.bool false,.int .i64 0,.int .u16 0,.int .u32 0,.int .u32 0,.slice none 0 0,.bool false,.int .u16 0,.slice none 0 0,.slice none 0 0,.int .i64 0,.int .i64 0,.bool false,.bool false,.int .u16 0,.slice va LV.length vc,.slice none 0 0,.int .i64 0] rfl rfl 100 Yz2a hz12 Yo3 Yo3 Yo3 ?_)
   have hb67:Below w6.heap.size w6 ((w6.alloc (.cells Yz2a 100)).setRow w6.heap.size #[.int .i64 0,.int .i64 0,.int .i64 0,.int .i64 0,.bool false,.int .i64 0,.int .u16 0,.int .u32 0,.int .u32 0,.slice none 0 0,.bool false,.int .u16 0,.slice none 0 0,.slice none 0 0,.int .i64 0,.int .i64 0,.bool false,.bool false,.int .u16 0,.slice va LV.length vc,.slice none 0 0,.int .i64 0]):=below_setRow (below_alloc w6 _) (Nat.le_refl _) _
   have hb17:Below w1.heap.size w1 ((w6.alloc (.cells Yz2a 100)).setRow w6.heap.size #[.int .i64 0,.int .i64 0,.int .i64 0,.int .i64 0,.bool false,.int .i64 0,.int .u16 0,.int .u32 0,.int .u32 0,.slice none 0 0,.bool false,.int .u16 0,.slice none 0 0,.slice none 0 0,.int .i64 0,.int .i64 0,.bool false,.bool false,.int .u16 0,.slice va LV.length vc,.slice none 0 0,.int .i64 0]):=HB16.out.trans (hb67.mono HB16.out.size)
   have HDL0:Hid (DL w ((w6.alloc (.cells Yz2a 100)).setRow w6.heap.size #[.int .i64 0,.int .i64 0,.int .i64 0,.int .i64 0,.bool false,.int .i64 0,.int .u16 0,.int .u32 0,.int .u32 0,.slice none 0 0,.bool false,.int .u16 0,.slice none 0 0,.slice none 0 0,.int .i64 0,.int .i64 0,.bool false,.bool false,.int .u16 0,.slice va LV.length vc,.slice none 0 0,.int .i64 0]) g b w6.heap.size ep #[.int .i64 kd,.int .i64 peer,.int .i64 src,.int .i64 ly,.string nm,.slice sa sl sc,.slice ba bl bc] (.slice va LV.length vc) LV (.slice none 0 0) 0 (.slice none 0 0) [] R):=
    ⟨Fr.of_below _ (HBW.out.trans (hb17.mono HBW.out.size)),(hb17.block _ (hp_lt HXB.out)).trans HXB.out,(hb17.block _ (hp_lt HZ.out)).trans HZ.out,setRow_heap _ _ _ _ _ _ hz12,ItmsV.below ⟨hrow,heach⟩ hb67,World.ownsRow_nil _ _ _ _,HD1.out.below hb17,Nat.lt_of_lt_of_le (hp_lt HZ.out) HB16.out.size,hbl,hgl⟩
   clear hz12 hb67 hb17 hrow heach HIT6 HB16
   generalize ((w6.alloc (.cells Yz2a 100)).setRow w6.heap.size #[.int .i64 0,.int .i64 0,.int .i64 0,.int .i64 0,.bool false,.int .i64 0,.int .u16 0,.int .u32 0,.int .u32 0,.slice none 0 0,.bool false,.int .u16 0,.slice none 0 0,.slice none 0 0,.int .i64 0,.int .i64 0,.bool false,.bool false,.int .u16 0,.slice va LV.length vc,.slice none 0 0,.int .i64 0])=w7 at *
   generalize w6.heap.size=k at *
   have HIV:Hid (∀ j,Inv (itemsDo peer (IL.take j) R).1.2∧Slim (itemsDo peer (IL.take j) R).1.2∧(itemsDo peer (IL.take j) R).1.1.length≤3000*(IL.take j).length∧0≤(itemsDo peer (IL.take j) R).2∧(itemsDo peer (IL.take j) R).2≤1000*(IL.take j).length):=fun j=>itemsDo_ok peer (IL.take j) R hI hS (fun i hi=>HOK.out.1 i (List.mem_of_mem_take hi))
   have HLV:=Lib.hid hLV
   go_wp2_with fail
   go_loopw [57] (fun s57 w'=>∃ (j:Nat) (tv:Value),j≤LV.length∧s57 = .int .i64 (j:Int)∧DL w w' g b k ep #[.int .i64 kd,.int .i64 peer,.int .i64 src,.int .i64 ly,.string nm,.slice sa sl sc,.slice ba bl bc] (.slice va LV.length vc) LV tv (itemsDo peer (IL.take j) R).2 tv (itemsDo peer (IL.take j) R).1.1 (itemsDo peer (IL.take j) R).1.2) (fun s57 _=>LV.length-(intOf s57).toNat)
   case atStart=>exact ⟨0,.slice none 0 0,by omega,rfl,HDL0.out⟩
   case round=>
    obtain ⟨j,tv,hjL,rfl,hdl⟩:=hrel
    have HDL:=Lib.hid hdl
    clear HDL0
    by_cases hjl:j<LV.length
    ·obtain ⟨ta,tc,htv,-⟩:=Row.of_owns hdl.own
     subst htv
     obtain ⟨g',off',e2,hat⟩:=itm_at hdl.its.row (by omega)
     cases e2
     have hxj:LV[j]?=some LV[j]:=List.getElem?_eq_getElem hjl
     have hat:=hat j _ hxj
     have hir:=hdl.its.each LV[j] (List.getElem_mem hjl)
     have hok:ItmOk LV[j].i:=HOK.out.1 _ (by rw [HLV.out];exact List.mem_map.2 ⟨_,List.getElem_mem hjl,rfl⟩)
     have hTK:IL.take (j+1)=IL.take j++[LV[j].i]:=take_snocM (by rw [HLV.out,List.getElem?_map,hxj];rfl)
     generalize LV[j]=x at *
     clear hxj
     obtain ⟨i,bv,gv,pv⟩:=x
     obtain ⟨xa,xc,hbv⟩:=Row.form hir.b
     obtain ⟨ga,gc,hgv⟩:=Row.form hir.g
     obtain ⟨pa,pc,hpv⟩:=Row.form hir.p
     dsimp only at hbv hgv hpv hok hTK
     subst hbv;subst hgv;subst hpv
     have hrg:wr.rangeAt g' (off'+j*10) [.int .i64 i.kind,.int .u32 i.ssrc,.int .u64 i.ntp,.int .u32 i.time,.int .u32 i.packets,.int .u32 i.octets,.slice xa i.blocks.length xc,.slice ga i.gone.length gc,.int .u32 i.media,.slice pa i.pairs.length pc]:=fun m v hm=>(hat m Yo18).trans hm
     have HTK:=Lib.hid hTK
     have HSN:=Lib.hid (itemsDo_snoc peer i (IL.take j) R)
     have HIR:=Lib.hid hir
     have HOKI:=Lib.hid hok
     obtain ⟨hv1,hv2,hv3,hv4,hv5⟩:=HIV.out j
     rw [List.length_take] at hv3 hv5
     have hjI:(j:Int)<(LV.length:Int):=Int.ofNat_lt.2 hjl
     have hz:=heap_new wr (.cells Yz1a 173)
     have hx2:=setRow_heap _ _ _ #[.int .i64 i.kind,.int .u32 i.ssrc,.int .u64 i.ntp,.int .u32 i.time,.int .u32 i.packets,.int .u32 i.octets,.slice xa i.blocks.length xc,.slice ga i.gone.length gc,.int .u32 i.media,.slice pa i.pairs.length pc] _ _ hz
     have HB2:Hid (Below wr.heap.size wr ((wr.alloc (.cells Yz1a 173)).setRow wr.heap.size #[.int .i64 i.kind,.int .u32 i.ssrc,.int .u64 i.ntp,.int .u32 i.time,.int .u32 i.packets,.int .u32 i.octets,.slice xa i.blocks.length xc,.slice ga i.gone.length gc,.int .u32 i.media,.slice pa i.pairs.length pc])):=below_setRow (below_alloc wr _) (Nat.le_refl _) _
     clear hat hir hok hTK hdl
     go_upto_region 14 with (first|(with_reducible refine load_at 173 (.tmp 59) rfl ?_;refine wpList_load_mid rfl 173 (.tmp 59) rfl g' (off'+j*10) rfl [.int .i64 i.kind,.int .u32 i.ssrc,.int .u64 i.ntp,.int .u32 i.time,.int .u32 i.packets,.int .u32 i.octets,.slice xa i.blocks.length xc,.slice ga i.gone.length gc,.int .u32 i.media,.slice pa i.pairs.length pc] _ hrg Tryz.underlying173 rfl Yo3 ?_)|(with_reducible refine store_at 173 (.tmp 14) (.tmp 60) rfl ?_;refine store_rowTo2 rfl 173 (.tmp 14) (.tmp 60) rfl rfl wr.heap.size #[.int .i64 i.kind,.int .u32 i.ssrc,.int .u64 i.ntp,.int .u32 i.time,.int .u32 i.packets,.int .u32 i.octets,.slice xa i.blocks.length xc,.slice ga i.gone.length gc,.int .u32 i.media,.slice pa i.pairs.length pc] rfl rfl 173 Yz1a hz Yo3 Yo3 Yo3 ?_))
     clear hz hrg
     have HDL2:=Lib.hid (HDL.out.below HB2.out)
     have HIR2:=Lib.hid (HIR.out.below HB2.out)
     generalize ((wr.alloc (.cells Yz1a 173)).setRow wr.heap.size #[.int .i64 i.kind,.int .u32 i.ssrc,.int .u64 i.ntp,.int .u32 i.time,.int .u32 i.packets,.int .u32 i.octets,.slice xa i.blocks.length xc,.slice ga i.gone.length gc,.int .u32 i.media,.slice pa i.pairs.length pc])=w2 at *
     clear HDL HIR HB2
     generalize itemsDo peer (IL.take j) R=G at *
     obtain ⟨⟨G1,G2⟩,gu⟩:=G
     dsimp only at HSN HDL2 hv1 hv2 hv3 hv4 hv5
     have CI:Hid (Calls Tryz.prog 108 #[.pointer (some ⟨b,0,none⟩),.int .i64 peer,.agg #[.int .i64 i.kind,.int .u32 i.ssrc,.int .u64 i.ntp,.int .u32 i.time,.int .u32 i.packets,.int .u32 i.octets,.slice xa i.blocks.length xc,.slice ga i.gone.length gc,.int .u32 i.media,.slice pa i.pairs.length pc]] w2.drew fun e w'=>(∃ v,e = .returned (.tuple #[v,.int .i64 (itemDo G2 peer i).2])∧TurnRow w' v (itemDo G2 peer i).1.1)∧RoomAt w' b (itemDo G2 peer i).1.2∧Fr w2.drew.heap.size (· = b) w2.drew w'):=ItemDo_any b G2 peer ⟨i,.slice xa i.blocks.length xc,.slice ga i.gone.length gc,.slice pa i.pairs.length pc⟩ w2.drew (HDL2.out.door.room.below (Below.refl _ _).drew) hv1 hv2 HOKI.out (HIR2.out.below (Below.refl _ _).drew)
     have HIO:=itemDo_ok hv1 hv2 peer HOKI.out
     obtain ⟨-,-,hy1,hy2,hy3⟩:=HIO
     generalize itemDo G2 peer i=Y at *
     obtain ⟨⟨Y1,Y2⟩,yu⟩:=Y
     dsimp only at HSN CI hy1 hy2 hy3
     have KEEP:Hid (∀ w' R',DL w w' g b k ep #[.int .i64 kd,.int .i64 peer,.int .i64 src,.int .i64 ly,.string nm,.slice sa sl sc,.slice ba bl bc] (.slice (some ⟨g',off',none⟩) LV.length vc) LV (.slice ta G1.length tc) gu (.slice ta G1.length tc) G1 R'→w'.cell? ⟨g,0,none⟩=some (.pointer (some ⟨b,0,none⟩))∧w'.cell? ⟨w.heap.size,1,none⟩=some (.int .i64 peer)):=fun w' R' h=>⟨h.door.cells.1,by rw [cell_of h.op 1];rfl⟩
     have HDL3:=Lib.hid (HDL2.out.below (Below.refl _ _).drew)
     refine wp_region_noPanic ?_
     refine wp_region_held_drew (S:=(fun w'=>w'.cell? ⟨g,0,none⟩=some (.pointer (some ⟨b,0,none⟩))∧w'.cell? ⟨w.heap.size,1,none⟩=some (.int .i64 peer))) Yo3 ?_ (fun hHeld0=>?_)
     ·(try dsimp only)
      exact KEEP.out _ _ HDL3.out
     refine YA 0 (h:=YA 1 (h:=YA 2 (h:=YA 3 (h:=YA 4 (h:=YA 5 (h:=?_))))))
     refine YHR 6 (h:=fun K hK=>?_)
     refine step_loadrow (by rfl) 173 (.tmp 14) (by rfl) wr.heap.size (by rfl) 173 #[.int .i64 i.kind,.int .u32 i.ssrc,.int .u64 i.ntp,.int .u32 i.time,.int .u32 i.packets,.int .u32 i.octets,.slice xa i.blocks.length xc,.slice ga i.gone.length gc,.int .u32 i.media,.slice pa i.pairs.length pc] (0,0) _ hx2 Tryz.underlying173 rfl Yo3 ?_
     refine hK.out _ _ ?_ (fun hHeld1=>?_)
     ·(try dsimp only)
      first|exact KEEP.out _ _ HDL4.out|exact KEEP.out _ _ HDL3.out
     clear hK K
     try simp only [AnyT.pt]
     refine YHR 7 (h:=fun K hK=>?_)
     go_simp
     refine CI.out.mono ?_
     rintro e w4 ⟨⟨yv,rfl,htr⟩,hroom,hfr⟩
     obtain ⟨ya,yc,hyv,-⟩:=id htr
     subst hyv
     have HDL4:=Lib.hid (HDL3.out.item hroom hfr)
     have HTR:=Lib.hid htr
     clear htr hroom hfr
     go_wp2_with fail
     refine hK.out _ _ ?_ (fun hHeld2=>?_)
     ·(try dsimp only)
      first|exact KEEP.out _ _ HDL4.out|exact KEEP.out _ _ HDL3.out
     clear hK K
     try simp only [AnyT.pt]
     refine YA 8 (h:=YA 9 (h:=YA 10 (h:=YA 11 (h:=YA 12 (h:=?_)))))
     refine wpAnyH_done Yo3 ?_ _
     refine NoPanic.normal ?_
     clear hHeld0 hHeld1 hHeld2 KEEP CI HDL2 HDL3 hx2 HIR2
     go_upto_region 15 with fail
     have hw15:IntKind.i64.wrap (gu+yu)=gu+yu:=IntWalk.i64_in _ (by omega)
     have HDL5:=Lib.hid (HDL4.out.below (Below.refl _ _).drew)
     obtain ⟨k20,k21,-,-⟩:=HDL5.out.facts
     obtain ⟨m20,m21,-,-⟩:=HDL4.out.facts
     refine wp_region_noPanic ?_
     refine wp_region_held_drew (S:=(fun w'=>True)) Yo3 ?_ (fun hHeld0=>?_)
     ·(try dsimp only)
      try trivial
     refine YA 0 (h:=YA 2 (h:=YA 4 (h:=YA 6 (h:=?_))))
     refine wpAnyH_ready (rs:=[1,5]) Yo3 (by simp) ?_
     refine AllReadyH.cons (i:=1) rfl (fun K hK=>?_) ?_
     ·skip
      go_simp
      refine hK.out _ _ ?_ (fun hHeld1=>?_)
      ·(try dsimp only)
       try trivial
      clear hK K
      try simp only [AnyT.pt]
      refine wpAnyH_ready (rs:=[3,5]) Yo3 (by simp) ?_
      refine AllReadyH.cons (i:=3) rfl (fun K hK=>?_) ?_
      ·skip
       have HTRd:=Lib.hid (HTR.out.below (Below.refl _ _).drew)
       refine step_app (by rfl) (.tmp 73) (.tmp 74) 98 (by rfl) w.heap.size elemTurn _ G1.length (G1.flatMap turnCells) (by rfl) HDL5.out.own _ Y1.length (Y1.flatMap turnCells) (by rfl) HTRd.out (turns_len _) (turns_one _) (by omega) (by omega) ?_ ?_
       ·have:=HDL5.out.fr.size;omega
       intro v' w6 HO HG
       have HO2:Hid (w6.ownsRow w.heap.size 158 5 v' (G1++Y1).length ((G1++Y1).flatMap turnCells)):=Yo33
       obtain ⟨na,nc,hnv,-⟩:=Row.of_owns HO2.out
       subst hnv
       have HDL6:=Lib.hid (HDL5.out.grown HG.out HO2.out)
       obtain ⟨d20,d21,f20,f21⟩:=HDL6.out.facts
       refine hK.out _ _ ?_ (fun hHeld2=>?_)
       ·(try dsimp only)
        try trivial
       clear hK K
       try simp only [AnyT.pt]
       refine YHR 5 (h:=fun K hK=>?_)
       go_simp
       refine hK.out _ _ ?_ (fun hHeld3=>?_)
       ·(try dsimp only)
        try trivial
       clear hK K
       try simp only [AnyT.pt]
       refine YA 7 (h:=YA 8 (h:=?_))
       refine YHR 9 (h:=fun K hK=>?_)
       go_simp
       have HDL7:=Lib.hid (HDL6.out.set 20 (.slice na (G1++Y1).length nc) (.slice na (G1++Y1).length nc) gu rfl)
       obtain ⟨h20,h21,g20,g21⟩:=HDL7.out.facts
       refine hK.out _ _ ?_ (fun hHeld4=>?_)
       ·(try dsimp only)
        try trivial
       clear hK K
       try simp only [AnyT.pt]
       refine YA 10 (h:=?_)
       refine YHR 11 (h:=fun K hK=>?_)
       go_simp
       have HDL8:=Lib.hid (HDL7.out.set 21 (.int .i64 (gu+yu)) (.slice na (G1++Y1).length nc) (gu+yu) rfl)
       refine hK.out _ _ ?_ (fun hHeld5=>?_)
       ·(try dsimp only)
        try trivial
       exact Yx57
      refine AllReadyH.cons (i:=5) rfl (fun K hK=>?_) AllReadyH.nil
      go_simp
      refine hK.out _ _ ?_ (fun hHeld6=>?_)
      ·(try dsimp only)
       try trivial
      clear hK K
      try simp only [AnyT.pt]
      refine YA 7 (h:=?_)
      refine YHR 3 (h:=fun K hK=>?_)
      have HTRd:=Lib.hid (HTR.out.below (Below.refl _ _).drew)
      refine step_app (by rfl) (.tmp 73) (.tmp 74) 98 (by rfl) w.heap.size elemTurn _ G1.length (G1.flatMap turnCells) (by rfl) HDL5.out.own _ Y1.length (Y1.flatMap turnCells) (by rfl) HTRd.out (turns_len _) (turns_one _) (by omega) (by omega) ?_ ?_
      ·have:=HDL5.out.fr.size;omega
      intro v' w6 HO HG
      have HO2:Hid (w6.ownsRow w.heap.size 158 5 v' (G1++Y1).length ((G1++Y1).flatMap turnCells)):=Yo33
      obtain ⟨na,nc,hnv,-⟩:=Row.of_owns HO2.out
      subst hnv
      have HDL6:=Lib.hid (HDL5.out.grown HG.out HO2.out)
      obtain ⟨d20,d21,f20,f21⟩:=HDL6.out.facts
      refine hK.out _ _ ?_ (fun hHeld7=>?_)
      ·(try dsimp only)
       try trivial
      clear hK K
      try simp only [AnyT.pt]
      refine YA 8 (h:=?_)
      refine YHR 9 (h:=fun K hK=>?_)
      go_simp
      have HDL7:=Lib.hid (HDL6.out.set 20 (.slice na (G1++Y1).length nc) (.slice na (G1++Y1).length nc) gu rfl)
      obtain ⟨h20,h21,g20,g21⟩:=HDL7.out.facts
      refine hK.out _ _ ?_ (fun hHeld8=>?_)
      ·(try dsimp only)
       try trivial
      clear hK K
      try simp only [AnyT.pt]
      refine YA 10 (h:=?_)
      refine YHR 11 (h:=fun K hK=>?_)
      go_simp
      have HDL8:=Lib.hid (HDL7.out.set 21 (.int .i64 (gu+yu)) (.slice na (G1++Y1).length nc) (gu+yu) rfl)
      refine hK.out _ _ ?_ (fun hHeld9=>?_)
      ·(try dsimp only)
       try trivial
      exact Yx57
     refine AllReadyH.cons (i:=5) rfl (fun K hK=>?_) AllReadyH.nil
     go_simp
     refine hK.out _ _ ?_ (fun hHeld10=>?_)
     ·(try dsimp only)
      try trivial
     clear hK K
     try simp only [AnyT.pt]
     refine YA 7 (h:=?_)
     refine YHR 1 (h:=fun K hK=>?_)
     go_simp
     refine hK.out _ _ ?_ (fun hHeld11=>?_)
     ·(try dsimp only)
      try trivial
     clear hK K
     try simp only [AnyT.pt]
     refine YHR 3 (h:=fun K hK=>?_)
     have HTRd:=Lib.hid (HTR.out.below (Below.refl _ _).drew)
     refine step_app (by rfl) (.tmp 73) (.tmp 74) 98 (by rfl) w.heap.size elemTurn _ G1.length (G1.flatMap turnCells) (by rfl) HDL5.out.own _ Y1.length (Y1.flatMap turnCells) (by rfl) HTRd.out (turns_len _) (turns_one _) (by omega) (by omega) ?_ ?_
     ·have:=HDL5.out.fr.size;omega
     intro v' w6 HO HG
     have HO2:Hid (w6.ownsRow w.heap.size 158 5 v' (G1++Y1).length ((G1++Y1).flatMap turnCells)):=Yo33
     obtain ⟨na,nc,hnv,-⟩:=Row.of_owns HO2.out
     subst hnv
     have HDL6:=Lib.hid (HDL5.out.grown HG.out HO2.out)
     obtain ⟨d20,d21,f20,f21⟩:=HDL6.out.facts
     refine hK.out _ _ ?_ (fun hHeld12=>?_)
     ·(try dsimp only)
      try trivial
     clear hK K
     try simp only [AnyT.pt]
     refine YA 8 (h:=?_)
     refine YHR 9 (h:=fun K hK=>?_)
     go_simp
     have HDL7:=Lib.hid (HDL6.out.set 20 (.slice na (G1++Y1).length nc) (.slice na (G1++Y1).length nc) gu rfl)
     obtain ⟨h20,h21,g20,g21⟩:=HDL7.out.facts
     refine hK.out _ _ ?_ (fun hHeld13=>?_)
     ·(try dsimp only)
      try trivial
     clear hK K
     try simp only [AnyT.pt]
     refine YA 10 (h:=?_)
     refine YHR 11 (h:=fun K hK=>?_)
     go_simp
     have HDL8:=Lib.hid (HDL7.out.set 21 (.int .i64 (gu+yu)) (.slice na (G1++Y1).length nc) (gu+yu) rfl)
     refine hK.out _ _ ?_ (fun hHeld14=>?_)
     ·(try dsimp only)
      try trivial
     exact Yx57
    ·have hjj:j=LV.length:=by omega
     have hT:IL.take j=IL:=by rw [hjj,HLV.out];exact List.take_of_length_le (by rw [List.length_map];exact Nat.le_refl _)
     rw [hT] at HDL
     obtain ⟨ta,tc,htv,-⟩:=Row.of_owns HDL.out.own
     subst htv
     clear hdl HIV hT
     generalize itemsDo peer IL R=G at *
     obtain ⟨⟨G1,G2⟩,gu⟩:=G
     dsimp only at HX HDL
     have hk:=HDL.out.blk
     unfold tcells at hk
     have CC:=Lib.hid (control_any g (.pointer (some ⟨b,0,none⟩)) ep [.int .i64 0,.int .i64 0,.int .i64 0,.int .i64 0,.bool false,.int .i64 0,.int .u16 0,.int .u32 0,.int .u32 0,.slice none 0 0,.bool false,.int .u16 0,.slice none 0 0,.slice none 0 0,.int .i64 0,.int .i64 0,.bool false,.bool false,.int .u16 0,.slice va LV.length vc,.slice ta G1.length tc,.int .i64 gu] wr HDL.out.door.blk h0 h9 rfl Yo3)
     have HTK2:Hid (TakenIn wr ((([.int .i64 0,.int .i64 0,.int .i64 0,.int .i64 0,.bool false,.int .i64 0,.int .u16 0,.int .u32 0,.int .u32 0,.slice none 0 0,.bool false,.int .u16 0,.slice none 0 0,.slice none 0 0,.int .i64 0,.int .i64 0,.bool false,.bool false,.int .u16 0,.slice va LV.length vc,.slice ta G1.length tc,.int .i64 gu]:List Value).set 0 (.int .i64 2)).set 2 (.int .i64 (ep+1))) (feedT (ep+1) IL G1 gu)):=⟨_,_,_,_,_,rfl,PktR.nil _,⟨LV,HLV.out,HDL.out.its⟩,Row.of_owns HDL.out.own⟩
     have HAP:=Lib.hid HDL.out.door.apart
     have hzr:=HDL.out.z
     generalize hcc:((([.int .i64 0,.int .i64 0,.int .i64 0,.int .i64 0,.bool false,.int .i64 0,.int .u16 0,.int .u32 0,.int .u32 0,.slice none 0 0,.bool false,.int .u16 0,.slice none 0 0,.slice none 0 0,.int .i64 0,.int .i64 0,.bool false,.bool false,.int .u16 0,.slice va LV.length vc,.slice ta G1.length tc,.int .i64 gu]:List Value).set 0 (.int .i64 2)).set 2 (.int .i64 (ep+1)))=cs at *
     clear hcc
     go_wp2_with (first|(with_reducible refine load_at 100 (.tmp 12) rfl ?_;refine load_rowTo2 rfl 100 (.tmp 12) rfl k rfl 100 #[.int .i64 0,.int .i64 0,.int .i64 0,.int .i64 0,.bool false,.int .i64 0,.int .u16 0,.int .u32 0,.int .u32 0,.slice none 0 0,.bool false,.int .u16 0,.slice none 0 0,.slice none 0 0,.int .i64 0,.int .i64 0,.bool false,.bool false,.int .u16 0,.slice va LV.length vc,.slice ta G1.length tc,.int .i64 gu] (0,0) _ hk Tryz.underlying100 rfl Yo3 ?_)|(go_at_call 79;refine CC.out.mono ?_;rintro e w5 ⟨rfl,hg5,hf5⟩;have HF5:=Lib.hid hf5;have hz5:=(hf5.block (w.heap.size+1) (hp_lt hzr) (by omega)).trans hzr;have HTK:Hid (TakenIn w5 cs (feedT (ep+1) IL G1 gu)):=HTK2.out.fr hf5 (fun k hk=>HAP.out k (Or.inr hk));have HD5:Hid (DoorAt w5 g b G2 (ep+1)):=⟨hg5,HDL.out.door.room.fr hf5 (Nat.le_refl _) (fun h=>hgb (Eq.symm h)) (fun k c fr hk=>HAP.out.ne (by simp) k c fr (Or.inr hk))⟩;have hi:=tk_info HTK.out;have hold:=tk_hold HTK.out;have hone:=HTK.out.one;clear hg5 hf5 CC)|(with_reducible refine store_at 100 (.tmp 4) (.tmp 85) rfl ?_;refine store_rowTo2 rfl 100 (.tmp 4) (.tmp 85) rfl rfl (w.heap.size+1) cs.toArray rfl rfl 100 Yz2a hz5 hi hold hone ?_))
     refine bodyPost_ret (v:= .agg cs.toArray) ?_ rfl ?_
     ·exact Yx54
     rw [HX.out]
     refine ⟨⟨cs,rfl,HTK.out.setRow hz5 _⟩,HD5.out.setRow hz5 (by omega) (by omega) _,?_⟩
     exact fr_setRow' (HDL.out.fr.trans (HF5.out.mono HDL.out.fr.size (fun _ _ h=>Or.inr h))) (Nat.le_succ _) _
  ·exact Yx38
 ·exact Yx34
theorem datagram_any (g b:Nat) (R:Room) (ep kd peer src ly:Int) (nm:ByteArray) (sa ba:Option Addr) (sl sc bl bc:Nat) (l:List UInt8) (w:World) (hD:DoorAt w g b R ep) (hI:Inv R) (hS:Slim R) (h0:0≤ep) (h9:ep<1000000000) (hv:BRow w (.slice ba bl bc) l) :
  Calls Tryz.prog 76 #[.pointer (some ⟨g,0,none⟩),.agg #[.int .i64 kd,.int .i64 peer,.int .i64 src,.int .i64 ly,.string nm,.slice sa sl sc,.slice ba bl bc]] w fun e w'=>(∃ cs:List Value,e = .returned (.agg cs.toArray)∧TakenIn w' cs (datagram R ep peer l).1.1)∧DoorAt w' g b (datagram R ep peer l).1.2 (datagram R ep peer l).2∧Fr w.heap.size (fun k=>k=b∨k=g) w w':=by
 by_cases h3:192≤at8 l 1∧at8 l 1≤223
 ·exact datagram_feed g b R ep kd peer src ly nm sa ba sl sc bl bc l w hD hI hS h0 h9 hv h3
 ·exact datagram_plain g b R ep kd peer src ly nm sa ba sl sc bl bc l w hD hI hS.short hv h3
end Go.Proofs.By
