/- The proof that the law's row holds, part 5: the kit's words, the printed walks and the plain law. No conditions beyond the card's own. -/
import Derived.Test.YtldhkbiomingbaaGreatDoorJ0
import Derived.Test.YtldhkbiomingbaaGreatDoorJ1
import Derived.Test.YtldhkbiomingbaaGreatDoorJ2
set_option linter.unusedVariables false
set_option linter.unusedSimpArgs false
set_option maxHeartbeats 8000000
set_option maxRecDepth 100000
namespace Go.Proofs.YtldhkbiomingbaaGreatDoor.F
open Go.RowKit Go.Proofs.YtldhkbiomingbaaGreatDoor Go.YW.PrintWords Go.YW.PrintLast Go.YW.PrintMore Go.Lib
attribute [local go_sem] max2_int min2_int max_two min_two max_three min_three max_four min_four
def Sv (t:TypeId) (W:World) (base:Nat) (ok:Nat → Prop) (v:Value) (xs:List Int):Prop :=
 ∃ g cap cur lo hi,v = .slice (some ⟨g,0,none⟩) xs.length cap ∧ ok g ∧ W.heap[g]? = some (.cells cur t (lo,hi)) ∧ xs.length ≤ cap ∧ cap ≤ lo ∧ xs.length ≤ 9223372036854775807 ∧ ∀ j,j < xs.length → cur[j]? = some (.int .u8 (xs.getD j 0))
section
variable {t:TypeId} {W w1:World} {base base':Nat} {ok ok':Nat → Prop} {v:Value} {xs:List Int}
theorem Sv_slice (h:Sv t W base ok v xs):∃ A c,v = .slice A xs.length c:=by
 obtain ⟨g,cap,cur,lo,hi,rfl,_⟩:=h;exact ⟨_,_,rfl⟩
theorem Sv_mono (h:Sv t W base ok v xs) (hok:∀ k,ok k → ok' k):Sv t W base ok' v xs:=by
 obtain ⟨g,cap,cur,lo,hi,e,h1,r⟩:=h;exact ⟨g,cap,cur,lo,hi,e,hok g h1,r⟩
theorem Sv_lower (h:Sv t W base ok v xs) (_:base' ≤ base):Sv t W base' ok v xs:=h
theorem Sv_far (h:Sv t W base ok v xs) {p:Addr} (hok:∀ k,ok k → k ≠ p.block) (u:Value):Sv t (W.setCell p u) base ok v xs:=by
 obtain ⟨g,cap,cur,lo,hi,e,h1,h2,r⟩:=h
 exact ⟨g,cap,cur,lo,hi,e,h1,(Below.heap_setCell W p u g (hok g h1)).trans h2,r⟩
theorem Sv_below (h:Sv t W base ok v xs) (hb:Below W.heap.size W w1):Sv t w1 base ok v xs:=by
 obtain ⟨g,cap,cur,lo,hi,e,h1,h2,r⟩:=h
 exact ⟨g,cap,cur,lo,hi,e,h1,(hb.block g (Array.getElem?_eq_some_iff.1 h2).1).trans h2,r⟩
theorem Sv_alloc (h:Sv t W base ok v xs) (o:Obj):Sv t (W.alloc o) base ok v xs:=Sv_below h ((Below.refl _ W).alloc (Nat.le_refl _) o)
theorem Sv_drewN (h:Sv t W base ok v xs) (m:Nat):Sv t (W.drewN m) base ok v xs:=h
theorem Sv_drew (h:Sv t W base ok v xs):Sv t W.drew base ok v xs:=h
end
theorem conv_S (W:World) (e:TypeId) (s:ByteArray) (hmax:s.size ≤ 9223372036854775807):Sv e (Lib.bytesWorld W e s) W.heap.size (fun k_=>W.heap.size ≤ k_) (.slice (some ⟨W.heap.size,0,none⟩) s.size (grownCap W s.size 0 e)) (bytesOf s):=by
 have hl:=bytesOf_length s
 have hcap:s.size ≤ grownCap W s.size 0 e:=by exact grownCap_ge ..
 refine ⟨W.heap.size,grownCap W s.size 0 e,_,_,_,by rw [hl],Nat.le_refl _,Lib.bytesWorld_at_new W e s,by rw [hl];exact hcap,?_,by rw [hl];exact hmax,?_⟩
 ·unfold Lib.bytesCells
  rw [Array.size_append,Array.size_map,Array.size_replicate]
  show _ ≤ s.size + _
  omega
 ·intro j hj
  rw [hl] at hj
  have hc:=Lib.bytesWorld_cell W e s j hj
  unfold World.cell? at hc
  rw [Lib.bytesWorld_at_new] at hc
  have hc':(Lib.bytesCells W e s)[j]? = some (.int .u8 (s.data.toList.getD j 0).toNat):=hc
  rw [hc']
  unfold bytesOf
  rw [List.getD_eq_getElem?_getD,List.getD_eq_getElem?_getD,List.getElem?_map]
  have hjl:j < s.data.toList.length:=by rw [data_length];exact hj
  rw [List.getElem?_eq_getElem hjl];rfl
section
variable {P:Program} {ops:Array Oper} {rest:List Oper} {o:Oper} {a:Act} {Q:Exit → Act → World → Prop} {W:World} {Kc:Act → World → Prop}
theorem conv_stepS (hw:Region.wanted o (yielded ops a.tmps) = true) {N:Tmp} (_hd:o.dst = some N) (src dst e:TypeId) (x:Operand) (ho:o.op = .convert src dst x) (s:ByteArray) (hx:a.eval x = .string s)
  (hs:P.underlying src = some .string) (hdst:P.underlying dst = some (.slice e)) (he:P.underlying e = some (.int .u8)) (r:List Int) (hr:conv_bytes.f s = some r)
  (h:∀ v w1,Sv e w1 W.heap.size (fun k_=>(W.heap.size ≤ k_)) v r → Below W.heap.size W w1 → Kc (a.put o.dst v) w1):if Region.wanted o (yielded ops a.tmps) = true then Oper.wp P o a W Kc Q else Kc (a.put o.dst undef) W:=by
 obtain ⟨hmax,rfl⟩:=conv_bytes_some hr
 refine event_step hw (v:=.slice (some ⟨W.heap.size,0,none⟩) s.size (grownCap W s.size 0 e)) (w1:=Lib.bytesWorld W e s) ?_ (h _ _ (conv_S W e s hmax) (conv_below W e s))
 simp [execOp,ho,hx,Lib.run_convert_string_bytes W src dst e s hs hdst he]
end
theorem impl_read.callsS (a0:ByteArray) (r1:Int) (r2:Int) (r3:List Int) (w:World) (h:impl_read.f a0 = some (r1,r2,r3)) :
  Calls Tryz.prog 51 #[.string a0] w fun e w'=>∃ v2_:Value,e = .returned (.agg #[.int .i64 r1,.int .i64 r2,v2_]) ∧ Sv 5 w' w.heap.size (fun k_=>(w.heap.size ≤ k_)) v2_ r3 ∧ Below w.heap.size w w':=by
 have hu65:=Tryz.underlying65
 have HB:=am (Below.refl w.heap.size w)
 have H:((strings_Split.f a0 (⟨#[47]⟩:ByteArray)).bind fun t102=>(if 0 < (t102.length:Int) then ((strings_Join.f t102 (⟨#[]⟩:ByteArray)).bind fun t106=>((conv_bytes.f t106).bind fun t107=>(some (((rdOf ByteArray.empty t102 0).size:Int),(t102.length:Int),t107)))) else (none))) = some (r1,r2,r3):=h
 clear h
 obtain ⟨t102,A2,H⟩:=bn H
 replace H:=gd H
 obtain ⟨c3,H⟩:=H
 have c3b0:=decide_eq_true c3
 have c3b1:decide (0 < t102.length) = true:=decide_eq_true o_m
 clear c3
 obtain ⟨t106,A4,H⟩:=bn H
 obtain ⟨t107,A5,H⟩:=bn H
 simp only [Option.some.injEq,Prod.mk.injEq] at H
 obtain ⟨rfl,rfl,rfl⟩:=H
 go_enter Tryz.func51,Tryz.ntmps51
 try go_wp2_with (first | (refine bx 2 #[.int .i64 0,.int .i64 0,.slice none 0 0] 65 ?_;intro gb101 hg w6 hbox hb;have BK101:=am (hbox);have GW101:=am ((by rw [hg];exact (below_size (by repeat (first | (with_reducible first | exact HB.out | apply below_alloc | apply pw_below_drewN | apply below_drew1) | exact HB.out))):w.heap.size ≤ gb101));have GE101:=am ((by rw [hg];exact (below_size (by repeat (first | (with_reducible first | exact HB.out | apply below_alloc | apply pw_below_drewN | apply below_drew1) | exact HB.out))):w.heap.size ≤ gb101));replace HB:=am (below_step (by repeat (first | (with_reducible first | exact HB.out | apply below_alloc | apply pw_below_drewN | apply below_drew1) | exact HB.out)) hb);clear hb hbox hg) | ((with_reducible refine gate_callee (f:=90) rfl ?_);refine goesL_ (some 5) rfl rfl Tryz.func90 k_r rfl #[.string a0,.string (⟨#[47]⟩:ByteArray)] rfl (by (try simp only [List.map_toArray,List.map_cons,List.map_nil]);first | done | rfl | (simp only [List.length_drop,List.length_take];rfl)) ?_;(with_reducible refine (strings_Split.calls a0 (⟨#[47]⟩:ByteArray) t102 _ A2.out).mono ?_);rintro e w7 ⟨v103,rfl,ho0,hb⟩;refine ⟨_,rfl,?_⟩;have HO104:=am (Kd.R_lower (Kd.R_newM (M:=fun k_=>(w.heap.size ≤ k_)) ho0 (below_size (by repeat (first | (with_reducible first | exact HB.out | apply below_alloc | apply pw_below_drewN | apply below_drew1 | refine below_set ?_ GE101.out) | exact HB.out))) (fun k_ h_=>h_)) (below_size (by repeat (first | (with_reducible first | exact HB.out | apply below_alloc | apply pw_below_drewN | apply below_drew1 | refine below_set ?_ GE101.out) | exact HB.out))));replace BK101:=am (blk_below (g:=gb101) (o:=.cells #[.int .i64 0,.int .i64 0,.slice none 0 0] 65 (0,0)) (by (with_reducible repeat (first | refine blk_drewN ?_ _ | refine blk_drew ?_ | refine blk_alloc ?_ _));exact BK101.out) hb);replace HB:=am (below_step (by repeat (first | (with_reducible first | exact HB.out | apply below_alloc | apply pw_below_drewN | apply below_drew1 | refine below_set ?_ GE101.out) | exact HB.out)) hb);(try clear hb);(try clear ho0)))
 replace HO104:=am (Kd.R_drew HO104.out)
 replace BK101:=am (blk_drew BK101.out)
 replace HB:=am (below_drew1 HB.out)
 obtain ⟨Ao9,co9,eo9⟩:=Kd.R_slice HO104.out
 (first | subst eo9 | (injection eo9 with f1_ f2_ f3_;have f4_:=f1_.symm;have f5_:=f3_.symm;clear f1_ f2_ f3_;subst f4_;subst f5_))
 have p105:0 ≤ (0:Int):=o_m
 have q105:0 < (t102.length:Int):=of_decide_eq_true (by first | (with_reducible assumption) | assumption)
 obtain ⟨ad105,e105,hx105_0⟩:=Kd.at_string (Kd.R_reads' HO104.out).2.2 0 p105 q105
 cases e105
 have qi105:(0 < t102.length) = True:=eq_true o_m
 (try rw [show ((0:Int)).toNat = 0 from rfl] at hx105_0)
 (try rw [Addr.add_zero'] at hx105_0)
 replace p105:=eq_true p105
 replace q105:=eq_true q105
 refine start_ (n:=11) (S:=fun w'=>w'.cell? ad105 = some (.string (rdOf ByteArray.empty t102 0))) (ds:=[]) (bm 11 0) k_r rfl rfl (hx105_0) (fun hHeld=>?_);refine with_tabW impl_read.tab2 impl_read.bits2 (fun HT_ HW_=>?_)
 generalize w7.drew = w8 at HO104 BK101 HB hx105_0 hHeld ⊢
 refine py (i:=0) (N:=some 6) (bm 11 1) ?_
 refine py (i:=1) (N:=some 7) (bm 11 3) ?_
 refine py (i:=4) (N:=some 10) (bm 11 19) ?_
 refine py (i:=5) (N:=some 11) (bm 11 51) ?_
 refine py (i:=6) (N:=some 12) (bm 11 115) ?_
 refine take_ (i:=2) (N:=some 8) (v:=?_) (a':=?_) (bm 11 119) rfl rfl (take_ofW HT_.out HW_.out k_r) (fun _ _ _ h=>h) (Or.inl ⟨by rfl,?_⟩) hHeld ?_ ?_
 rotate_left
 ·intro w' s0
  go_simp
  with_reducible rfl
 rotate_left
 ·simp only [Act.put,ac_]
  rfl
 refine py (i:=3) (N:=some 9) (bm 11 127) ?_
 refine one_ (i:=7) (N:=some 13) (bm 11 255) rfl rfl (one_of HT_.out k_r) d_c (fun K hK=>?_)
 refine goes_ Tryz.func91 k_r rfl #[.slice (some ad105) t102.length co9,.string (⟨#[]⟩:ByteArray)] (by rfl) rfl rfl (by (try simp only [List.map_toArray,List.map_cons,List.map_nil]);first | done | rfl | (simp only [List.length_drop,List.length_take];rfl)) ?_
 with_reducible refine (strings_Join.calls _ _ t102 (⟨#[]⟩:ByteArray) t106 _ ?side1 ?side2 A4.out).mono ?_
 (case side1=>repeat (first | exact (Kd.R_reads' HO104.out).2.2 | (with_reducible refine Kd.C_alloc ?_ _) | (with_reducible refine Kd.C_drewN ?_ _) | (with_reducible refine Kd.C_drew ?_)))
 (case side2=>exact (Kd.R_reads' HO104.out).2.1)
 rintro e w10 ⟨rfl,hb⟩
 have HS0_:=(hb.cell (World.block_lt_of_cell? _ _ (hHeld))).trans (hHeld)
 refine ⟨_,rfl,?_⟩
 replace HO104:=am (Kd.R_below (by (with_reducible repeat (first | apply Kd.R_alloc | apply Kd.R_drewN | apply Kd.R_drew));exact HO104.out) hb)
 replace BK101:=am (blk_below (g:=gb101) (o:=.cells #[.int .i64 0,.int .i64 0,.slice none 0 0] 65 (0,0)) (by (with_reducible repeat (first | refine blk_drewN ?_ _ | refine blk_drew ?_ | refine blk_alloc ?_ _));exact BK101.out) hb)
 replace HB:=am (below_step (by repeat (first | (with_reducible first | exact HB.out | apply below_alloc | apply pw_below_drewN | apply below_drew1 | refine below_set ?_ GE101.out) | exact HB.out)) hb)
 (try clear hb)
 refine hK.out _ _ (HS0_) (fun hHeld=>?_)
 clear hK K
 refine nm (some 13) ?_
 refine one_ (i:=8) (N:=some 14) (bm 11 511) rfl rfl (one_of HT_.out k_r) d_c (fun K hK=>?_)
 refine conv_stepS (by rfl) (N:=14) rfl 9 63 5 _ rfl t106 rfl Tryz.underlying9 Tryz.underlying63 Tryz.underlying5 t107 A5.out ?_
 intro v108 w11 ho0 hb
 have HS0_:=(hb.cell (World.block_lt_of_cell? _ _ (hHeld))).trans (hHeld)
 have HO109:=am (Sv_lower (Sv_mono (ok':=fun k_=>(w.heap.size ≤ k_) ∧ some k_ ≠ (.slice (some ad105) t102.length co9:Value).ownBlock ∧ k_ ≠ gb101) ho0 (fun k_ hk_=>⟨(Nat.le_trans (below_size (by repeat (first | (with_reducible first | exact HB.out | apply below_alloc | apply pw_below_drewN | apply below_drew1 | refine below_set ?_ GE101.out) | exact HB.out))) hk_),(Kd.fresh' (Kd.R_lt (by (with_reducible repeat (first | apply Kd.R_alloc | apply Kd.R_drewN | apply Kd.R_drew));exact HO104.out)) k_ hk_),(Kd.freshB (g:=gb101) (o:=.cells #[.int .i64 0,.int .i64 0,.slice none 0 0] 65 (0,0)) (by (with_reducible repeat (first | refine blk_drewN ?_ _ | refine blk_drew ?_ | refine blk_alloc ?_ _));exact BK101.out) k_ hk_)⟩)) (below_size (by repeat (first | (with_reducible first | exact HB.out | apply below_alloc | apply pw_below_drewN | apply below_drew1 | refine below_set ?_ GE101.out) | exact HB.out))))
 replace HO104:=am (Kd.R_below (by (with_reducible repeat (first | apply Kd.R_alloc | apply Kd.R_drewN | apply Kd.R_drew));exact HO104.out) hb)
 replace BK101:=am (blk_below (g:=gb101) (o:=.cells #[.int .i64 0,.int .i64 0,.slice none 0 0] 65 (0,0)) (by (with_reducible repeat (first | refine blk_drewN ?_ _ | refine blk_drew ?_ | refine blk_alloc ?_ _));exact BK101.out) hb)
 replace HB:=am (below_step (by repeat (first | (with_reducible first | exact HB.out | apply below_alloc | apply pw_below_drewN | apply below_drew1 | refine below_set ?_ GE101.out) | exact HB.out)) hb)
 (try clear hb)
 (try clear ho0)
 obtain ⟨Ao12,co12,eo12⟩:=Sv_slice HO109.out
 (first | subst eo12 | (injection eo12 with f1_ f2_ f3_;have f4_:=f1_.symm;have f5_:=f3_.symm;clear f1_ f2_ f3_;subst f4_;subst f5_))
 refine hK.out _ _ (HS0_) (fun hHeld=>?_)
 clear hK K
 refine nm (some 14) ?_
 refine py (i:=9) (N:=some 15) (bm 11 1023) ?_
 refine one_ (i:=10) (N:=none) (bm 11 2047) rfl rfl (one_of HT_.out k_r) d_c (fun K hK=>?_)
 have hs13:w11.cell? ⟨gb101,0,none⟩ = some (.int .i64 0):=(blk_cell BK101.out 0).trans rfl
 have hfs13:=blk_frozen BK101.out 0
 have hs14:w11.cell? ⟨gb101,1,none⟩ = some (.int .i64 0):=(blk_cell BK101.out 1).trans rfl
 have hfs14:=blk_frozen BK101.out 1
 have hs15:w11.cell? ⟨gb101,2,none⟩ = some (.slice none 0 0):=(blk_cell BK101.out 2).trans rfl
 have hfs15:=blk_frozen BK101.out 2
 refine skip_ (w1:=?_) (by rfl) rfl ?_ ?_
 rotate_left
 ·go_simp
  rfl
 refine hK.out _ _ (((cell_far (p:=⟨gb101,_,none⟩) (by first | exact Kd.own_blk (Kd.R_ne HO104.out BK101.out d_c) | (rw [add_block];exact Kd.own_blk (Kd.R_ne HO104.out BK101.out d_c)) | (show (Addr.add _ _).block ≠ _;rw [add_block];exact Kd.own_blk (Kd.R_ne HO104.out BK101.out d_c)) | (dsimp only;exact Kd.own_blk (Kd.R_ne HO104.out BK101.out d_c))) _).trans (((cell_far (p:=⟨gb101,_,none⟩) (by first | exact Kd.own_blk (Kd.R_ne HO104.out BK101.out d_c) | (rw [add_block];exact Kd.own_blk (Kd.R_ne HO104.out BK101.out d_c)) | (show (Addr.add _ _).block ≠ _;rw [add_block];exact Kd.own_blk (Kd.R_ne HO104.out BK101.out d_c)) | (dsimp only;exact Kd.own_blk (Kd.R_ne HO104.out BK101.out d_c))) _).trans (((cell_far (p:=⟨gb101,_,none⟩) (by first | exact Kd.own_blk (Kd.R_ne HO104.out BK101.out d_c) | (rw [add_block];exact Kd.own_blk (Kd.R_ne HO104.out BK101.out d_c)) | (show (Addr.add _ _).block ≠ _;rw [add_block];exact Kd.own_blk (Kd.R_ne HO104.out BK101.out d_c)) | (dsimp only;exact Kd.own_blk (Kd.R_ne HO104.out BK101.out d_c))) _).trans (hHeld))))))) (fun hHeld=>?_)
 clear hK K
 refine done_ (done_of HT_.out k_r) ?_
 try go_wp2
 refine bodyPost_ret (results_cell_row rfl _ _ gb101 65 #[.int .i64 ((rdOf ByteArray.empty t102 0).size:Int),.int .i64 (t102.length:Int),.slice Ao12 t107.length co12] (0,0) _ rfl (by (with_reducible repeat (first | refine blk_drewN ?_ _ | refine blk_drew ?_ | refine blk_alloc ?_ _));refine blk_put (cs:=#[.int .i64 ((rdOf ByteArray.empty t102 0).size:Int),.int .i64 (t102.length:Int),.slice none 0 0]) ?_ 2 _ rfl;(with_reducible repeat (first | refine blk_drewN ?_ _ | refine blk_drew ?_ | refine blk_alloc ?_ _));refine blk_put (cs:=#[.int .i64 ((rdOf ByteArray.empty t102 0).size:Int),.int .i64 0,.slice none 0 0]) ?_ 1 _ rfl;(with_reducible repeat (first | refine blk_drewN ?_ _ | refine blk_drew ?_ | refine blk_alloc ?_ _));refine blk_put (cs:=#[.int .i64 0,.int .i64 0,.slice none 0 0]) ?_ 0 _ rfl;(with_reducible repeat (first | refine blk_drewN ?_ _ | refine blk_drew ?_ | refine blk_alloc ?_ _));exact BK101.out) Tryz.underlying65 rfl k_r) rfl ?_
 exact ⟨_,by first | rfl | (simp [errW_none,errW_some] <;> rfl) | (simp [*,errW_none,errW_some] <;> rfl),by (with_reducible repeat (first | apply Sv_alloc | apply Sv_drewN | apply Sv_drew));exact Sv_mono (Sv_far (p:=⟨gb101,2,none⟩) (Sv_far (p:=⟨gb101,1,none⟩) (Sv_far (p:=⟨gb101,0,none⟩) (Sv_mono HO109.out (fun k_ hk=>(⟨hk,hk.2.2⟩:_ ∧ k_ ≠ gb101))) (fun _ hk=>hk.2) (.int .i64 ((rdOf ByteArray.empty t102 0).size:Int))) (fun _ hk=>hk.2) (.int .i64 (t102.length:Int))) (fun _ hk=>hk.2) (.slice Ao12 t107.length co12)) (fun _ hk=>hk.1.1),by repeat (first | (with_reducible first | exact HB.out | apply below_alloc | apply pw_below_drewN | apply below_drew1 | refine below_set ?_ GE101.out) | exact HB.out)⟩
end Go.Proofs.YtldhkbiomingbaaGreatDoor.F

namespace Go.Proofs.YtldhkbiomingbaaGreatDoor
open Go.RowKit Go.YW.PrintWords Go.YW.PrintLast Go.YW.PrintMore Go.Lib
namespace Kx
def R (t:TypeId) (W:World) (base:Nat) (ok:Nat → Prop) (v:Value) (xs:List Int):Prop :=
 (∀ k,v.ownBlock = some k → ok k) ∧ ∃ g cap cur lo hi,v = .slice (some ⟨g,0,none⟩) xs.length cap ∧ base ≤ g ∧ W.heap[g]? = some (.cells cur t (lo,hi)) ∧ xs.length ≤ cap ∧ cap ≤ lo ∧ xs.length ≤ 9223372036854775807 ∧ ∀ j,j < xs.length → cur[j]? = some (.int .u8 (xs.getD j 0))
section
variable {t e e' base base' n cap g:Nat} {W w1:World} {ok ok':Nat → Prop} {u v:Value} {xs:List Int} {α:Type} {d:Kd α} {ys:List α}
theorem R_mono (h:R t W base ok v xs) (hok:∀ k,ok k → ok' k):R t W base ok' v xs:=⟨fun k hk=>hok k (h.1 k hk),h.2⟩
theorem R_lower (h:R t W base ok v xs) (hb:base' ≤ base):R t W base' ok v xs:=by
 obtain ⟨h0,g,cap,cur,lo,hi,e,h1,r⟩:=h;exact ⟨h0,g,cap,cur,lo,hi,e,Nat.le_trans hb h1,r⟩
theorem R_move (h:R t W base ok v xs) (hm:∀ k,v.ownBlock = some k → k < W.heap.size → w1.heap[k]? = W.heap[k]?):R t w1 base ok v xs:=by
 obtain ⟨h0,g,cap,cur,lo,hi,e,h1,h2,r⟩:=h
 exact ⟨h0,g,cap,cur,lo,hi,e,h1,(hm g (by rw [e];rfl) (Array.getElem?_eq_some_iff.1 h2).1).trans h2,r⟩
theorem R_below (h:R t W base ok v xs) (hb:Below W.heap.size W w1):R t w1 base ok v xs:=R_move h (fun k _ hk=>hb.block k hk)
theorem R_alloc (h:R t W base ok v xs) (o:Obj):R t (W.alloc o) base ok v xs:=R_below h ((Below.refl _ W).alloc (Nat.le_refl _) o)
theorem R_drewN (h:R t W base ok v xs) (m:Nat):R t (W.drewN m) base ok v xs:=h
theorem R_drew (h:R t W base ok v xs):R t W.drew base ok v xs:=h
theorem R_far (h:R t W base ok v xs) {p:Addr} (hok:∀ k,ok k → k ≠ p.block) (u:Value):R t (W.setCell p u) base ok v xs:=R_move h (fun k hk _=>Below.heap_setCell W p u k (hok k (h.1 k hk)))
theorem R_blk (h:R t W base ok v xs):∀ k,v.ownBlock = some k → ∃ cells m,W.heap[k]? = some (.cells cells t m):=by
 obtain ⟨_,g,cap,cur,lo,hi,e,h1,h2,_⟩:=h
 intro k hk
 rw [e] at hk
 obtain rfl:g = k:=Option.some.inj hk
 exact ⟨cur,_,h2⟩
theorem R_types (h:R t W base ok v xs) {cells:Array Value} (hb:W.heap[g]? = some (.cells cells e (0,0))) (ht:t ≠ e):R t W base (fun k=>ok k ∧ k ≠ g) v xs :=
 ⟨fun k hk=>⟨h.1 k hk,by
  rintro rfl
  obtain ⟨c,m,hc⟩:=R_blk h k hk
  rw [hb] at hc
  injection hc with hc
  injection hc with _ hc
  exact ht hc.symm⟩,h.2⟩
theorem R_ne (h:R t W base ok v xs) {cells:Array Value} (hb:W.heap[g]? = some (.cells cells e (0,0))) (ht:t ≠ e):some g ≠ v.ownBlock:=fun hk=>((R_types h hb ht).1 g hk.symm).2 rfl
theorem R_apart' (h:R t W base ok v xs) (hty:∀ k,u.ownBlock = some k → ∃ cells,W.heap[k]? = some (.cells cells e' (0,0))) (ht:t ≠ e'):R t W base (fun k=>ok k ∧ some k ≠ u.ownBlock) v xs :=
 ⟨fun k hk=>⟨h.1 k hk,fun hu=>by
  obtain ⟨c,hc⟩:=hty k hu.symm
  exact R_ne h hc ht hk.symm⟩,h.2⟩
theorem R_tight (_h:(0:Nat) = 0) (h:R t W base ok v xs):R t W base (fun k=>some k = v.ownBlock) v xs:=⟨fun k hk=>hk.symm,h.2⟩
theorem R_slice (h:R t W base ok v xs):∃ A c,v = .slice A xs.length c:=by
 obtain ⟨_,g,cap,cur,lo,hi,e,_⟩:=h;exact ⟨_,_,e⟩
theorem R_form (h:R t W base ok v xs) (_hp:0 < xs.length):∃ g cap,v = .slice (some ⟨g,0,none⟩) xs.length cap ∧ base ≤ g ∧ g < W.heap.size ∧ ∃ cells,∃ m,W.heap[g]? = some (.cells cells t m):=by
 obtain ⟨_,g,cap,cur,lo,hi,e,h1,h2,_⟩:=h;exact ⟨g,cap,e,h1,(Array.getElem?_eq_some_iff.1 h2).1,cur,_,h2⟩
theorem R_parts (h:R t W base ok (.slice (some ⟨g,0,none⟩) n cap) xs):n = xs.length ∧ base ≤ g ∧ ∃ cur lo hi,W.heap[g]? = some (.cells cur t (lo,hi)) ∧ xs.length ≤ cap ∧ cap ≤ lo ∧ xs.length ≤ 9223372036854775807 ∧ ∀ j,j < xs.length → cur[j]? = some (.int .u8 (xs.getD j 0)):=by
 obtain ⟨_,g',cap',cur,lo,hi,e,h1,r⟩:=h
 injection e with e1 e2 e3
 injection e1 with e1
 injection e1 with e1
 subst e1 e3
 exact ⟨e2,h1,cur,lo,hi,r⟩
theorem R_celln (d:Int) (h:R t W base ok (.slice (some ⟨g,0,none⟩) n cap) xs) (i:Int) (h0:0 ≤ i) (hi:i < n):W.cell? ⟨g,i.toNat,none⟩ = some (.int .u8 (rdOf d xs i)) ∧ W.frozen? ⟨g,i.toNat,none⟩ = false:=by
 obtain ⟨rfl,hb,cur,lo,hi',h2,h3,h4,h5,h6⟩:=R_parts h
 have hil:i.toNat < xs.length:=by omega
 refine ⟨(cell_of_row W g i.toNat cur t _ h2).trans ((h6 _ hil).trans ?_),?_⟩
 ·unfold rdOf
  rw [List.getD_eq_getElem?_getD,List.getD_eq_getElem?_getD,List.getElem?_eq_getElem hil];rfl
 ·simp [World.frozen?,h2]
  omega
theorem R_putg (h:R t W base ok (.slice (some ⟨g,0,none⟩) n cap) xs) (i:Int) (x:Int):R t (W.setCell ⟨g,i.toNat,none⟩ (.int .u8 x)) base ok (.slice (some ⟨g,0,none⟩) n cap) (xs.set i.toNat x) ∧ W.grownBy (W.setCell ⟨g,i.toNat,none⟩ (.int .u8 x)) (some g):=by
 have h0:=h.1
 obtain ⟨rfl,hb,cur,lo,hi,h2,h3,h4,h5,h6⟩:=R_parts h
 refine ⟨⟨h0,g,cap,cur.setIfInBounds i.toNat (.int .u8 x),lo,hi,by rw [List.length_set],hb,?_,by rw [List.length_set];exact h3,h4,by rw [List.length_set];exact h5,fun j hj=>?_⟩,?_⟩
 ·simp [World.setCell,Array.getElem?_modify,h2]
 ·rw [List.length_set] at hj
  have hc:=h6 j hj
  have hjs:=(Array.getElem?_eq_some_iff.1 hc).1
  by_cases e:i.toNat = j
  rotate_left
  ·rw [Array.getElem?_setIfInBounds_ne e,hc,List.getD_eq_getElem?_getD,List.getD_eq_getElem?_getD,List.getElem?_set_ne e]
  subst e
  rw [Array.getElem?_setIfInBounds_self,if_pos hjs,List.getD_eq_getElem?_getD,List.getElem?_set_self hj];rfl
 ·exact ⟨rfl,rfl,rfl,by rw [World.size_setCell];exact Nat.le_refl _,fun k hk hne=>Below.heap_setCell W _ _ k (fun e=>hne (by rw [e]))⟩
theorem R_over' (h:d.R e W base ok u ys) (hty:∀ k,v.ownBlock = some k → ∃ cells m,W.heap[k]? = some (.cells cells e' m)) (ht:∀ q,q ∈ e :: d.E → q ≠ e') (hg:W.grownBy w1 v.ownBlock):d.R e w1 base ok u ys:=by
 refine Kd.R_mono (Kd.R_move (Kd.R_bound h) (fun k hk=>hg.block k hk.2.2.1 (fun he=>?_))) (fun _ hk=>hk.1)
 obtain ⟨_,_,_,q,hq,cells,hc⟩:=hk
 obtain ⟨cells',m,hc'⟩:=hty k he.symm
 rw [hc] at hc'
 injection hc' with hc'
 injection hc' with _ hc'
 exact ht q hq hc'
theorem R_V (h:R t W base ok v xs):Kd.V (Kd.int .u8) t W base' ok v xs:=by
 obtain ⟨h0,g,cap,cur,lo,hi,rfl,h1,h2,h3,h4,h5,h6⟩:=h
 refine ⟨_,cap,rfl,h3,fun W' hW=>?_⟩
 have h2':W'.heap[g]? = some (.cells cur t (lo,hi)):=(hW g (h0 g rfl) (Array.getElem?_eq_some_iff.1 h2).1).trans h2
 refine Kd.C_of_reads (enc:=Value.int .u8) (d:=(0:Int)) (h1:=fun _=>rfl) ⟨rfl,h5,fun _=>⟨_,rfl,fun j hj=>?_⟩⟩
 have:=(cell_of_row W' g j cur t _ h2').trans (h6 j hj)
 rwa [show (Addr.add ⟨g,0,none⟩ j) = ⟨g,j,none⟩ from by cases j <;> simp [Addr.add]]
end
end Kx
namespace F
open Go.Proofs.YtldhkbiomingbaaGreatDoor
def impl_readS.f (a0:ByteArray):Option (Int × Int × List Int):=impl_read.f a0
theorem impl_readS.calls (a0:ByteArray) (r1:Int) (r2:Int) (r3:List Int) (w:World) (h:impl_readS.f a0 = some (r1,r2,r3)) :
  Calls Tryz.prog 51 #[.string a0] w fun e w'=>∃ v2_:Value,e = .returned (.agg #[.int .i64 r1,.int .i64 r2,v2_]) ∧ Kx.R 5 w' w.heap.size (fun _=>True) v2_ r3 ∧ Below w.heap.size w w':=by
 refine (impl_read.callsS a0 r1 r2 r3 w h).mono ?_
 rintro e w' ⟨v2,rfl,⟨g,cap,cur,lo,hi,e,h1,h2,h3,h4,h5,h6⟩,hb⟩
 exact ⟨v2,rfl,⟨fun _ _=>trivial,g,cap,cur,lo,hi,e,h1,h2,h3,h4,h5,h6⟩,hb⟩
end F
end Go.Proofs.YtldhkbiomingbaaGreatDoor
