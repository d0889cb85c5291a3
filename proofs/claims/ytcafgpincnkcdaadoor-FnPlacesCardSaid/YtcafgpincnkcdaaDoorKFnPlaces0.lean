/- One Lean function and its proof for each Go function, written by a program out of the translation. No conditions. -/
import Derived.Test.YtcafgpincnkcdaaDoorProg
import Derived.Test.YtcafgpincnkcdaaDoorKFnPlacesVEqStruct
import Derived.Test.YtcafgpincnkcdaaDoorKFnPlacesVRepsOne
import Derived.Test.YtcafgpincnkcdaaDoorKFnPlacesVInv
import Derived.Test.YtcafgpincnkcdaaDoorKFnPlacesVGuard
import Derived.Test.YtcafgpincnkcdaaDoorKFnPlacesVMore
namespace Go.Proofs.YtcafgpincnkcdaaDoor
section
open Go Go.RowKit Go.Proofs.YtcafgpincnkcdaaDoorW.PrintWords Go.Proofs.YtcafgpincnkcdaaDoorW.PrintLast Go.Proofs.YtcafgpincnkcdaaDoorW.PrintMore
theorem mi(v:Int){w:World}{b:Nat}{ok:Nat→Prop}:Kd.M (Kd.int .i64) w b ok v [.int .i64 v]:=rfl
def bz(n m:Nat):Array Bool:=((List.range n).map (fun i=>m.testBit i)).toArray
theorem pZ{P:Program}{md:Region.Mode}{ops:Array Oper}{Q:Exit→Act→World→Prop}{S:World→Prop}{ds:List Nat}{oi:Oper}{v:Value}{fuel:Nat}{l:Array Bool}{a:Act}{w:World}(i:Nat)(N:Option Tmp)(l':Array Bool){a':Act}(h:wpAnyLast P md ops Q S ds fuel l' a' w)(hi:ops[i]?=some oi:=by exact rfl)(hN:oi.dst=N:=by exact rfl)(hc:anyB md ops l l' i=true:=by exact any_of HT_.out (by kernel_rfl))(hQ:∀c a w,Q (.panic c) (a.put oi.dst v) w→Q (.panic c) a w:=by exact fun _ _ _ h=>h)(hy:Yields P ops oi v a:=by exact Or.inl ⟨by rfl,by(intro w';go_simp;with_reducible rfl)⟩)(ha:a.put N v=a':=by(simp only[Act.put,List.setIfInBounds_toArray,List.set_cons_zero,List.set_cons_succ,i64_w,i32_w];rfl)):wpAnyLast P md ops Q S ds (fuel+1) l a w:=pure_ l' hi hN hc hQ hy ha h
theorem tZ0{P:Program}{md:Region.Mode}{ops:Array Oper}{Q:Exit→Act→World→Prop}{S:World→Prop}{ds:List Nat}{oi:Oper}{v:Value}{fuel:Nat}{l:Array Bool}{a:Act}{w:World}(i:Nat)(N:Option Tmp)(l':Array Bool){a':Act}(h:wpAnyLast P md ops Q S ds fuel l' a' w)(hi:ops[i]?=some oi:=by exact rfl)(hN:oi.dst=N:=by exact rfl)(hc:takeB md ops ds l l' i=true:=by exact take_ofW HT_.out HW_.out (by kernel_rfl))(hQ:∀c a w,Q (.panic c) (a.put oi.dst v) w→Q (.panic c) a w:=by exact fun _ _ _ h=>h)(hy:YieldsIf P ops S oi v a:=by exact Or.inl ⟨by rfl,by(rintro w' ⟨s0,s1,s2,s3,s4⟩;go_simp;with_reducible rfl)⟩)(hS:S w:=by exact hHeld)(ha:a.put N v=a':=by(simp only[Act.put,List.setIfInBounds_toArray,List.set_cons_zero,List.set_cons_succ,i64_w,i32_w];rfl)):wpAnyLast P md ops Q S ds (fuel+1) l a w:=take_ l' hi hN hc hQ hy hS ha h
theorem tZ1{P:Program}{md:Region.Mode}{ops:Array Oper}{Q:Exit→Act→World→Prop}{S:World→Prop}{ds:List Nat}{oi:Oper}{v:Value}{fuel:Nat}{l:Array Bool}{a:Act}{w:World}(i:Nat)(N:Option Tmp)(l':Array Bool){a':Act}(h:wpAnyLast P md ops Q S ds fuel l' a' w)(hi:ops[i]?=some oi:=by exact rfl)(hN:oi.dst=N:=by exact rfl)(hc:takeB md ops ds l l' i=true:=by exact take_ofW HT_.out HW_.out (by kernel_rfl))(hQ:∀c a w,Q (.panic c) (a.put oi.dst v) w→Q (.panic c) a w:=by exact fun _ _ _ h=>h)(hy:YieldsIf P ops S oi v a:=by exact Or.inl ⟨by rfl,by(rintro w' ⟨s0,s1,s2,s3,s4,s5,s6,s7⟩;go_simp;with_reducible rfl)⟩)(hS:S w:=by exact hHeld)(ha:a.put N v=a':=by(simp only[Act.put,List.setIfInBounds_toArray,List.set_cons_zero,List.set_cons_succ,i64_w,i32_w];rfl)):wpAnyLast P md ops Q S ds (fuel+1) l a w:=take_ l' hi hN hc hQ hy hS ha h
theorem tZ2{P:Program}{md:Region.Mode}{ops:Array Oper}{Q:Exit→Act→World→Prop}{S:World→Prop}{ds:List Nat}{oi:Oper}{v:Value}{fuel:Nat}{l:Array Bool}{a:Act}{w:World}(i:Nat)(N:Option Tmp)(l':Array Bool){a':Act}(h:wpAnyLast P md ops Q S ds fuel l' a' w)(hi:ops[i]?=some oi:=by exact rfl)(hN:oi.dst=N:=by exact rfl)(hc:takeB md ops ds l l' i=true:=by exact take_ofW HT_.out HW_.out (by kernel_rfl))(hQ:∀c a w,Q (.panic c) (a.put oi.dst v) w→Q (.panic c) a w:=by exact fun _ _ _ h=>h)(hy:YieldsIf P ops S oi v a:=by exact Or.inl ⟨by rfl,by(rintro w' ⟨s0,s1,s2,s3,s4,s5⟩;go_simp;with_reducible rfl)⟩)(hS:S w:=by exact hHeld)(ha:a.put N v=a':=by(simp only[Act.put,List.setIfInBounds_toArray,List.set_cons_zero,List.set_cons_succ,i64_w,i32_w];rfl)):wpAnyLast P md ops Q S ds (fuel+1) l a w:=take_ l' hi hN hc hQ hy hS ha h
theorem tZ3{P:Program}{md:Region.Mode}{ops:Array Oper}{Q:Exit→Act→World→Prop}{S:World→Prop}{ds:List Nat}{oi:Oper}{v:Value}{fuel:Nat}{l:Array Bool}{a:Act}{w:World}(i:Nat)(N:Option Tmp)(l':Array Bool){a':Act}(h:wpAnyLast P md ops Q S ds fuel l' a' w)(hi:ops[i]?=some oi:=by exact rfl)(hN:oi.dst=N:=by exact rfl)(hc:takeB md ops ds l l' i=true:=by exact take_ofW HT_.out HW_.out (by kernel_rfl))(hQ:∀c a w,Q (.panic c) (a.put oi.dst v) w→Q (.panic c) a w:=by exact fun _ _ _ h=>h)(hy:YieldsIf P ops S oi v a:=by exact Or.inl ⟨by rfl,by(rintro w' ⟨s0,s1,s2,s3,s4,s5,s6,s7,s8,s9⟩;go_simp;with_reducible rfl)⟩)(hS:S w:=by exact hHeld)(ha:a.put N v=a':=by(simp only[Act.put,List.setIfInBounds_toArray,List.set_cons_zero,List.set_cons_succ,i64_w,i32_w];rfl)):wpAnyLast P md ops Q S ds (fuel+1) l a w:=take_ l' hi hN hc hQ hy hS ha h
theorem tZ4{P:Program}{md:Region.Mode}{ops:Array Oper}{Q:Exit→Act→World→Prop}{S:World→Prop}{ds:List Nat}{oi:Oper}{v:Value}{fuel:Nat}{l:Array Bool}{a:Act}{w:World}(i:Nat)(N:Option Tmp)(l':Array Bool){a':Act}(h:wpAnyLast P md ops Q S ds fuel l' a' w)(hi:ops[i]?=some oi:=by exact rfl)(hN:oi.dst=N:=by exact rfl)(hc:takeB md ops ds l l' i=true:=by exact take_ofW HT_.out HW_.out (by kernel_rfl))(hQ:∀c a w,Q (.panic c) (a.put oi.dst v) w→Q (.panic c) a w:=by exact fun _ _ _ h=>h)(hy:YieldsIf P ops S oi v a:=by exact Or.inl ⟨by rfl,by(rintro w' ⟨s0,s1,s2,s3,s4,s5,s6,s7,s8,s9,s10⟩;go_simp;with_reducible rfl)⟩)(hS:S w:=by exact hHeld)(ha:a.put N v=a':=by(simp only[Act.put,List.setIfInBounds_toArray,List.set_cons_zero,List.set_cons_succ,i64_w,i32_w];rfl)):wpAnyLast P md ops Q S ds (fuel+1) l a w:=take_ l' hi hN hc hQ hy hS ha h
theorem qx0{p q:Prop}(x:q)(h:q→p:=by(intro z;(with_reducible repeat(first|apply Kd.R_alloc|apply Kd.R_drewN|apply Kd.R_drew));exact z)):p:=h x
theorem qx1{p q:Prop}(x:q)(h:q→p:=by(intro z;(with_reducible repeat(first|refine blk_drewN ?_ _|refine blk_drew ?_|refine blk_alloc ?_ _));exact z)):p:=h x
theorem qx2{p q:Prop}(x:q)(h:q→p:=by(intro z;rw[HE.out];exact z)):p:=h x
theorem qx3{p q:Prop}(x:q)(h:q→p:=by(intro z;(with_reducible repeat(first|refine blk_drewN ?_ _|refine blk_drew ?_|refine blk_alloc ?_ _));refine blk_far ?_ NB625_635.out _;(with_reducible repeat(first|refine blk_drewN ?_ _|refine blk_drew ?_|refine blk_alloc ?_ _));refine blk_far ?_ NB625_635.out _;(with_reducible repeat(first|refine blk_drewN ?_ _|refine blk_drew ?_|refine blk_alloc ?_ _));refine blk_far ?_ NB625_635.out _;(with_reducible repeat(first|refine blk_drewN ?_ _|refine blk_drew ?_|refine blk_alloc ?_ _));exact z)):p:=h x
theorem qx4{p q:Prop}(x:q)(h:q→p:=by(intro z;(with_reducible repeat(first|refine blk_drewN ?_ _|refine blk_drew ?_|refine blk_alloc ?_ _));refine blk_far ?_ NB626_635.out _;(with_reducible repeat(first|refine blk_drewN ?_ _|refine blk_drew ?_|refine blk_alloc ?_ _));refine blk_far ?_ NB626_635.out _;(with_reducible repeat(first|refine blk_drewN ?_ _|refine blk_drew ?_|refine blk_alloc ?_ _));refine blk_far ?_ NB626_635.out _;(with_reducible repeat(first|refine blk_drewN ?_ _|refine blk_drew ?_|refine blk_alloc ?_ _));exact z)):p:=h x
theorem qx5{p q:Prop}(x:q)(h:q→p:=by(intro z;(with_reducible repeat(first|refine blk_drewN ?_ _|refine blk_drew ?_|refine blk_alloc ?_ _));refine blk_put (cs:= #[.int .i64 t631,.int .i64 t632,.int .i64 0]) ?_ 2 _ rfl;(with_reducible repeat(first|refine blk_drewN ?_ _|refine blk_drew ?_|refine blk_alloc ?_ _));refine blk_put (cs:= #[.int .i64 t631,.int .i64 0,.int .i64 0]) ?_ 1 _ rfl;(with_reducible repeat(first|refine blk_drewN ?_ _|refine blk_drew ?_|refine blk_alloc ?_ _));refine blk_put (cs:= #[.int .i64 0,.int .i64 0,.int .i64 0]) ?_ 0 _ rfl;(with_reducible repeat(first|refine blk_drewN ?_ _|refine blk_drew ?_|refine blk_alloc ?_ _));exact z)):p:=h x
theorem qx6{p q:Prop}(x:q)(h:q→p:=by(intro z;(with_reducible repeat(first|refine blk_drewN ?_ _|refine blk_drew ?_|refine blk_alloc ?_ _));refine blk_put (cs:= #[.int .i64 0,.int .i64 0,.int .i64 0]) ?_ 2 _ rfl;(with_reducible repeat(first|refine blk_drewN ?_ _|refine blk_drew ?_|refine blk_alloc ?_ _));refine blk_put (cs:= #[.int .i64 0,.int .i64 0,.int .i64 0]) ?_ 1 _ rfl;(with_reducible repeat(first|refine blk_drewN ?_ _|refine blk_drew ?_|refine blk_alloc ?_ _));refine blk_put (cs:= #[.int .i64 0,.int .i64 0,.int .i64 0]) ?_ 0 _ rfl;(with_reducible repeat(first|refine blk_drewN ?_ _|refine blk_drew ?_|refine blk_alloc ?_ _));exact z)):p:=h x
theorem qz0{p:Prop}(h:p:=by repeat(first|(with_reducible first|exact HB.out|apply below_alloc|apply pw_below_drewN|apply below_drew1)|exact HB.out)):p:=h
theorem qz1{p:Prop}(h:p:=by repeat(first|(with_reducible first|exact HK.out|apply KeepBut.set_|apply keep_drewN|apply keep_drew|apply keep_alloc)|exact HK.out)):p:=h
theorem qz2{p:Prop}(h:p:=by repeat(first|(with_reducible first|exact HB.out|apply below_alloc|apply pw_below_drewN|apply below_drew1|refine below_set ?_ (IsS72.ge HI0.out))|exact HB.out)):p:=h
theorem qz3{p:Prop}(h:p:=by repeat(first|(with_reducible first|exact HI0.out|apply IsS72.alloc|apply IsS72.drewN|apply IsS72.drew|apply IsS72.set_1|apply IsS72.set_2)|exact HI0.out)):p:=h
theorem qz4{p:Prop}(h:p:=by(repeat(first|exact HB.out|exact Below.refl _ _|apply below_alloc|apply pw_below_drewN|apply below_drew1));done):p:=h
theorem qz5{p:Prop}(h:p:=by first|rfl|(simp[errW_none,errW_some]<;>rfl)|(simp[*,errW_none,errW_some]<;>rfl)):p:=h
theorem qz6{p:Prop}(h:p:=by first|(with_reducible assumption)|assumption):p:=h
theorem qz7{p:Prop}(h:p:=by first|rfl|(simp;done)|(simp[*];done)):p:=h
theorem qz8{p:Prop}(h:p:=by first|exact Kd.own_blk (Kd.R_away HO561.out (fun _ hk=>hk))|(rw[add_block];exact Kd.own_blk (Kd.R_away HO561.out (fun _ hk=>hk)))|(show(Addr.add _ _).block≠_;rw[add_block];exact Kd.own_blk (Kd.R_away HO561.out (fun _ hk=>hk)))|(dsimp only;exact Kd.own_blk (Kd.R_away HO561.out (fun _ hk=>hk)))):p:=h
theorem qz9{p:Prop}(h:p:=by first|exact Kd.own_blk (Kd.R_away HO_5.out (fun _ hk=>hk))|(rw[add_block];exact Kd.own_blk (Kd.R_away HO_5.out (fun _ hk=>hk)))|(show(Addr.add _ _).block≠_;rw[add_block];exact Kd.own_blk (Kd.R_away HO_5.out (fun _ hk=>hk)))|(dsimp only;exact Kd.own_blk (Kd.R_away HO_5.out (fun _ hk=>hk)))):p:=h
theorem qz10{p:Prop}(h:p:=by repeat(first|(with_reducible first|exact HK.out|apply KeepBut.set_|apply keep_drewN|apply keep_drew|apply keep_alloc|refine keep_far ?_ GW166.out _|refine keep_far ?_ GW191.out _)|exact HK.out)):p:=h
theorem qz11{p:Prop}(h:p:=by repeat(first|(with_reducible first|exact HI0.out|apply IsS72.alloc|apply IsS72.drewN|apply IsS72.drew|apply IsS72.set_1|apply IsS72.set_2|refine IsS72.far ?_ NB0_166.out _|refine IsS72.far ?_ NB0_191.out _)|exact HI0.out)):p:=h
theorem qz12{p:Prop}(h:p:=by repeat(first|(with_reducible first|exact HB.out|apply below_alloc|apply pw_below_drewN|apply below_drew1|refine below_set ?_ (IsS72.ge HI0.out)|refine below_set ?_ GE166.out|refine below_set ?_ GE191.out)|exact HB.out)):p:=h
theorem qz13{p:Prop}(h:p:=by repeat(first|(with_reducible first|exact HB.out|apply below_alloc|apply pw_below_drewN|apply below_drew1|refine below_set ?_ GE625.out|refine below_set ?_ GE626.out|refine below_set ?_ GE635.out)|exact HB.out)):p:=h
theorem qz14{p:Prop}(h:p:=by first|(go_simp;done)|(go_simp;rfl)):p:=h
theorem qz15{p:Prop}(h:p:=by repeat(first|exact(Kd.C_below HR0.out HB.out)|(with_reducible refine Kd.C_alloc ?_ _)|(with_reducible refine Kd.C_drewN ?_ _)|(with_reducible refine Kd.C_drew ?_))):p:=h
theorem qz16{p:Prop}(h:p:=by(with_reducible repeat(first|apply Kd.R_alloc|apply Kd.R_drewN|apply Kd.R_drew));exact Kd.R_mono (Kd.R_far (p:=⟨gb635,2,none⟩) (Kd.R_far (p:=⟨gb635,1,none⟩) (Kd.R_far (p:=⟨gb635,0,none⟩) (Kd.R_types HO_8.out BK635.out (by decide)) (fun _ hk=>hk.2) (.int .i64 t631)) (fun _ hk=>hk.2) (.int .i64 t632)) (fun _ hk=>hk.2) (.int .i64 t633)) (fun _ hk=>⟨hk.1.1,hk.1.2⟩)):p:=h
theorem qz17{p:Prop}(h:p:=by(with_reducible repeat(first|apply Kd.R_alloc|apply Kd.R_drewN|apply Kd.R_drew));exact Kd.R_mono (Kd.R_far (p:=⟨gb635,2,none⟩) (Kd.R_far (p:=⟨gb635,1,none⟩) (Kd.R_far (p:=⟨gb635,0,none⟩) (Kd.R_types HO_6.out BK635.out (by decide)) (fun _ hk=>hk.2) (.int .i64 t631)) (fun _ hk=>hk.2) (.int .i64 t632)) (fun _ hk=>hk.2) (.int .i64 t633)) (fun _ hk=>⟨hk.1.1,hk.1.2⟩)):p:=h
theorem qz18{p:Prop}(h:p:=by(with_reducible repeat(first|apply Kd.R_alloc|apply Kd.R_drewN|apply Kd.R_drew));exact Kd.R_mono (Kd.R_far (p:=⟨gb635,2,none⟩) (Kd.R_far (p:=⟨gb635,1,none⟩) (Kd.R_far (p:=⟨gb635,0,none⟩) (Kd.R_types HO_4.out BK635.out (by decide)) (fun _ hk=>hk.2) (.int .i64 t631)) (fun _ hk=>hk.2) (.int .i64 t632)) (fun _ hk=>hk.2) (.int .i64 t633)) (fun _ hk=>⟨hk.1.1,hk.1.2⟩)):p:=h
theorem qz19{p:Prop}(h:p:=by(with_reducible repeat(first|apply Kd.R_alloc|apply Kd.R_drewN|apply Kd.R_drew));exact Kd.R_mono (Kd.R_far (p:=⟨gb635,2,none⟩) (Kd.R_far (p:=⟨gb635,1,none⟩) (Kd.R_far (p:=⟨gb635,0,none⟩) (Kd.R_types HO_3.out BK635.out (by decide)) (fun _ hk=>hk.2) (.int .i64 t631)) (fun _ hk=>hk.2) (.int .i64 t632)) (fun _ hk=>hk.2) (.int .i64 t633)) (fun _ hk=>trivial)):p:=h
theorem qz20{p:Prop}(h:p:=by repeat(first|(with_reducible first|exact HK.out|apply KeepBut.set_|apply keep_drewN|apply keep_drew|apply keep_alloc|refine keep_far ?_ GW249.out _)|exact HK.out)):p:=h
theorem qz21{p:Prop}(h:p:=by repeat(first|(with_reducible first|exact HK.out|apply KeepBut.set_|apply keep_drewN|apply keep_drew|apply keep_alloc|refine keep_far ?_ GW166.out _)|exact HK.out)):p:=h
theorem qz22{p:Prop}(h:p:=by repeat(first|exact Drawn0.refl _|apply Drawn0.step)):p:=h
theorem qz23{p:Prop}(h:p:=by repeat(first|(with_reducible first|exact HI0.out|apply IsS72.alloc|apply IsS72.drewN|apply IsS72.drew|apply IsS72.set_1|apply IsS72.set_2|refine IsS72.far ?_ NB0_288.out _)|exact HI0.out)):p:=h
theorem qz24{p:Prop}(h:p:=by repeat(first|(with_reducible first|exact HB.out|apply below_alloc|apply pw_below_drewN|apply below_drew1|refine below_set ?_ (IsS72.ge HI0.out)|refine below_set ?_ GE288.out)|exact HB.out)):p:=h
theorem qz25{p:Prop}(h:p:=by repeat(first|(with_reducible first|exact HK.out|apply KeepBut.set_|apply keep_drewN|apply keep_drew|apply keep_alloc|refine keep_far ?_ GW288.out _)|exact HK.out)):p:=h
theorem qz26{p:Prop}(h:p:=by repeat(first|(with_reducible first|exact HB.out|apply below_alloc|apply pw_below_drewN|apply below_drew1|refine below_set ?_ GE579.out)|exact HB.out)):p:=h
theorem qz27{p:Prop}(h:p:=by(repeat(first|exact Below.refl _ _|apply pw_below_drewN|apply below_drew1|exact HB.out|refine below_step ?_ (by assumption)));done):p:=h
theorem qz28{p:Prop}(h:p:=by repeat(first|(with_reducible first|exact HI0.out|apply IsS72.alloc|apply IsS72.drewN|apply IsS72.drew|apply IsS72.set_1|apply IsS72.set_2|refine IsS72.far ?_ NB0_249.out _)|exact HI0.out)):p:=h
theorem qz29{p:Prop}(h:p:=by repeat(first|(with_reducible first|exact HB.out|apply below_alloc|apply pw_below_drewN|apply below_drew1|refine below_set ?_ (IsS72.ge HI0.out)|refine below_set ?_ GE249.out)|exact HB.out)):p:=h
theorem qz30{p:Prop}(h:p:=by repeat(first|exact HR0.out|(with_reducible refine Kd.C_alloc ?_ _)|(with_reducible refine Kd.C_drewN ?_ _)|(with_reducible refine Kd.C_drew ?_))):p:=h
theorem qz31{p:Prop}(h:p:=by repeat(first|(with_reducible first|exact HB.out|apply below_alloc|apply pw_below_drewN|apply below_drew1|refine below_set ?_ (Aside0.out (by assumption)))|exact HB.out)):p:=h
theorem qz32{p:Prop}(h:p:=by repeat(first|(with_reducible first|exact HI0.out|apply IsS72.alloc|apply IsS72.drewN|apply IsS72.drew|apply IsS72.set_1|apply IsS72.set_2|refine IsS72.far ?_ NB0_166.out _)|exact HI0.out)):p:=h
theorem qz33{p:Prop}(h:p:=by repeat(first|(with_reducible first|exact HB.out|apply below_alloc|apply pw_below_drewN|apply below_drew1|refine below_set ?_ (IsS72.ge HI0.out)|refine below_set ?_ GE166.out)|exact HB.out)):p:=h
theorem qz34{p:Prop}(h:p:=by first|assumption|(go_simp;done)):p:=h
theorem qz35{p:Prop}(h:p:=by simp only;omega):p:=h
theorem qz36{p:Prop}(h:p:=by repeat(first|exact(Kd.R_reads' HO_6.out).2.2|(with_reducible refine Kd.C_alloc ?_ _)|(with_reducible refine Kd.C_drewN ?_ _)|(with_reducible refine Kd.C_drew ?_))):p:=h
theorem qz37{p:Prop}(h:p:=by repeat(first|(with_reducible first|exact HB.out|apply below_alloc|apply pw_below_drewN|apply below_drew1|refine below_set ?_ (IsS72.ge HI363.out))|exact HB.out)):p:=h
theorem qz38{p:Prop}(h:p:=by first|(refine Eq.mp (congrArg (fun n_=>ReadsRow _ _ _ _ n_ _) (show(l0.take (x5_1:Int).toNat).length=x5_1.toNat from(by rw[List.length_take];have h_:(x5_1:Int)≤(l0.length:Int):=of_decide_eq_true qz6;omega))) ?_;repeat(first|exact(Kd.C_below HR167.out HB.out)|(with_reducible refine Kd.C_alloc ?_ _)|(with_reducible refine Kd.C_drewN ?_ _)|(with_reducible refine Kd.C_drew ?_)))|(repeat(first|exact(Kd.C_below HR167.out HB.out)|(with_reducible refine Kd.C_alloc ?_ _)|(with_reducible refine Kd.C_drewN ?_ _)|(with_reducible refine Kd.C_drew ?_)))):p:=h
theorem qz39{p:Prop}(h:p:=by first|(refine Eq.mp (congrArg (fun n_=>ReadsRow _ _ _ _ n_ _) (show(l0.take (x5_1:Int).toNat).length=x5_1.toNat from(by rw[List.length_take];have h_:(x5_1:Int)≤(l0.length:Int):=of_decide_eq_true qz6;omega))) ?_;repeat(first|exact(Kd.C_below HR150.out HB.out)|(with_reducible refine Kd.C_alloc ?_ _)|(with_reducible refine Kd.C_drewN ?_ _)|(with_reducible refine Kd.C_drew ?_)))|(repeat(first|exact(Kd.C_below HR150.out HB.out)|(with_reducible refine Kd.C_alloc ?_ _)|(with_reducible refine Kd.C_drewN ?_ _)|(with_reducible refine Kd.C_drew ?_)))):p:=h
theorem qz40{p:Prop}(h:p:=by repeat(first|(with_reducible first|exact HB.out|apply below_alloc|apply pw_below_drewN|apply below_drew1|refine below_set ?_ GE658.out|refine below_set ?_ GE663.out)|exact HB.out)):p:=h
theorem qz41{p:Prop}(h:p:=by repeat(first|(with_reducible first|exact HB.out|apply below_alloc|apply pw_below_drewN|apply below_drew1|refine below_set ?_ GE532.out)|exact HB.out)):p:=h
theorem qz42{p:Prop}(h:p:=by repeat(first|exact(Kd.R_reads' HO_3.out).2.2|(with_reducible refine Kd.C_alloc ?_ _)|(with_reducible refine Kd.C_drewN ?_ _)|(with_reducible refine Kd.C_drew ?_))):p:=h
theorem qz43{p:Prop}(h:p:=by(with_reducible repeat(first|apply Kd.R_alloc|apply Kd.R_drewN|apply Kd.R_drew));exact(Kd.R_mono (Kd.R_far (p:=⟨go55,(((rd_T49 l0 x9_2).f0):Int).toNat*3+2,none⟩) (Kd.R_far (p:=⟨go55,(((rd_T49 l0 x9_2).f0):Int).toNat*3+1,none⟩) (Kd.R_far (p:=⟨go55,(((rd_T49 l0 x9_2).f0):Int).toNat*3,none⟩) (Kd.R_types HO_6.out GG55.out (by decide)) (fun _ hk=>hk.2) (.int .i64 t442)) (fun _ hk=>hk.2) (.int .i64 t443)) (fun _ hk=>hk.2) (.int .i64 t444)) (fun _ h_=>h_.1))):p:=h
theorem qz44{p:Prop}(h:p:=by(with_reducible repeat(first|apply Kd.R_alloc|apply Kd.R_drewN|apply Kd.R_drew));exact(Kd.R_mono (Kd.R_far (p:=⟨go28,(((rd_T49 l0 x9_2).f1):Int).toNat*3+2,none⟩) (Kd.R_far (p:=⟨go28,(((rd_T49 l0 x9_2).f1):Int).toNat*3+1,none⟩) (Kd.R_far (p:=⟨go28,(((rd_T49 l0 x9_2).f1):Int).toNat*3,none⟩) (Kd.R_types HO_6.out GG28.out (by decide)) (fun _ hk=>hk.2) (.int .i64 t425)) (fun _ hk=>hk.2) (.int .i64 t426)) (fun _ hk=>hk.2) (.int .i64 t427)) (fun _ h_=>h_.1))):p:=h
theorem qz45{p:Prop}(h:p:=by repeat(first|(with_reducible first|exact HB.out|apply below_alloc|apply pw_below_drewN|apply below_drew1|refine below_set ?_ GE556.out)|exact HB.out)):p:=h
theorem qz46{p:Prop}(h:p:=by repeat(first|(with_reducible first|exact HB.out|apply below_alloc|apply pw_below_drewN|apply below_drew1|refine below_set ?_ GE625.out|refine below_set ?_ GE626.out)|exact HB.out)):p:=h
theorem qz47{p:Prop}(h:p:=by repeat(first|(with_reducible first|exact HB.out|apply below_alloc|apply pw_below_drewN|apply below_drew1|refine below_set ?_ GE142.out|refine below_set ?_ GE143.out)|exact HB.out)):p:=h
theorem qz48{p:Prop}(h:p:=by repeat(first|(with_reducible first|exact HB.out|apply below_alloc|apply pw_below_drewN|apply below_drew1|refine below_set ?_ GE398.out)|exact HB.out)):p:=h
theorem qz49{p:Prop}(h:p:=by repeat(first|(with_reducible first|exact HB.out|apply below_alloc|apply pw_below_drewN|apply below_drew1|refine below_set ?_ GE382.out)|exact HB.out)):p:=h
theorem qz50{p:Prop}(h:p:=by repeat(first|(with_reducible first|exact HB.out|apply below_alloc|apply pw_below_drewN|apply below_drew1|refine below_set ?_ GE556.out|refine below_set ?_ GE567.out)|exact HB.out)):p:=h
theorem qz51{p:Prop}(h:p:=by kernel_rfl):p:=h
theorem qz52{p:Prop}(h:p:=by repeat(first|(with_reducible first|exact HB.out|apply below_alloc|apply pw_below_drewN|apply below_drew1|refine below_set ?_ (IsS72.ge HI544.out))|exact HB.out)):p:=h
theorem qz53{p:Prop}(h:p:=by repeat(first|(with_reducible first|exact HB.out|apply below_alloc|apply pw_below_drewN|apply below_drew1|refine below_set ?_ GE658.out|refine below_set ?_ GE663.out|refine below_set ?_ GE672.out)|exact HB.out)):p:=h
theorem qz54{p:Prop}(h:p:=by simp only[putAll,Act.put,List.setIfInBounds_toArray,List.set_cons_zero,List.set_cons_succ]):p:=h
theorem qz55{p:Prop}(h:p:=by have:=HJ8.out;have:=HJ21.out;have:=HJ30.out;first|omega|exact Nat.le_refl _):p:=h
theorem qz56{p:Prop}(h:p:=by repeat(first|exact HB.out|apply below_alloc|apply below_drew1)):p:=h
theorem qz57{p:Prop}(h:p:=by repeat(first|(with_reducible first|exact HB.out|apply below_alloc|apply pw_below_drewN|apply below_drew1|refine below_set ?_ (IsS72.ge HI512.out))|exact HB.out)):p:=h
theorem qz58{p:Prop}(h:p:=by repeat(first|(with_reducible first|exact HI363.out|apply IsS72.alloc|apply IsS72.drewN|apply IsS72.drew|apply IsS72.set_1|apply IsS72.set_2)|exact HI363.out)):p:=h
theorem qz59{p:Prop}(h:p:=by repeat(first|exact(Kd.R_reads' HO590.out).2.2|(with_reducible refine Kd.C_alloc ?_ _)|(with_reducible refine Kd.C_drewN ?_ _)|(with_reducible refine Kd.C_drew ?_))):p:=h
theorem qz60{p:Prop}(h:p:=by repeat(first|(with_reducible first|exact HB.out|apply below_alloc|apply pw_below_drewN|apply below_drew1|refine below_set ?_ GE658.out)|exact HB.out)):p:=h
theorem qz61{p:Prop}(h:p:=by repeat(first|(with_reducible first|exact HB.out|apply below_alloc|apply pw_below_drewN|apply below_drew1|refine below_set ?_ GE389.out)|exact HB.out)):p:=h
theorem qz62{p:Prop}(h:p:=by first|omega|exact Nat.le_refl _):p:=h
theorem qz63{p:Prop}(h:p:=by have:=LMc28.out;have hlx_:=(show(l0.take (x5_1:Int).toNat).length=x5_1.toNat from(by rw[List.length_take];have h_:(x5_1:Int)≤(l0.length:Int):=of_decide_eq_true qz6;omega));omega):p:=h
theorem qz64{p:Prop}(h:p:=by have:=LMc9.out;have hlx_:=(show(l0.take (x5_1:Int).toNat).length=x5_1.toNat from(by rw[List.length_take];have h_:(x5_1:Int)≤(l0.length:Int):=of_decide_eq_true qz6;omega));omega):p:=h
theorem qz65{p:Prop}(h:p:=by repeat(first|(with_reducible first|exact HB.out|apply below_alloc|apply pw_below_drewN|apply below_drew1|refine below_set ?_ GE391.out|refine below_set ?_ GE392.out)|exact HB.out)):p:=h
theorem qz66{p:Prop}(h:p:=by repeat(first|(with_reducible first|exact HB.out|apply below_alloc|apply pw_below_drewN|apply below_drew1|refine below_set ?_ GE112.out|refine below_set ?_ GE113.out)|exact HB.out)):p:=h
theorem qz67{p:Prop}(h:p:=by intro b hb;have:=below_size HB.out;omega):p:=h
theorem qz68{p:Prop}(h:p:=by repeat(first|(with_reducible first|exact HI544.out|apply IsS72.alloc|apply IsS72.drewN|apply IsS72.drew|apply IsS72.set_1|apply IsS72.set_2)|exact HI544.out)):p:=h
theorem qz69{p:Prop}(h:p:=by repeat(first|exact(Kd.R_reads' HO_5.out).2.2|(with_reducible refine Kd.C_alloc ?_ _)|(with_reducible refine Kd.C_drewN ?_ _)|(with_reducible refine Kd.C_drew ?_))):p:=h
theorem qz70{p:Prop}(h:p:=by repeat(first|(with_reducible first|exact HB.out|apply below_alloc|apply pw_below_drewN|apply below_drew1|refine below_set ?_ GE625.out)|exact HB.out)):p:=h
theorem qz71{p:Prop}(h:p:=by repeat(first|(with_reducible first|exact HB.out|apply below_alloc|apply pw_below_drewN|apply below_drew1|refine below_set ?_ GE391.out)|exact HB.out)):p:=h
theorem qz72{p:Prop}(h:p:=by repeat(first|(with_reducible first|exact HB.out|apply below_alloc|apply pw_below_drewN|apply below_drew1|refine below_set ?_ GE152.out)|exact HB.out)):p:=h
theorem qz73{p:Prop}(h:p:=by repeat(first|(with_reducible first|exact HB.out|apply below_alloc|apply pw_below_drewN|apply below_drew1|refine below_set ?_ GE142.out)|exact HB.out)):p:=h
theorem qz74{p:Prop}(h:p:=by repeat(first|(with_reducible first|exact HB.out|apply below_alloc|apply pw_below_drewN|apply below_drew1|refine below_set ?_ GE112.out)|exact HB.out)):p:=h
theorem qz75{p:Prop}(h:p:=by repeat(first|exact HB.out|apply pw_below_drewN|apply below_drew1|(refine below_set ?_ (by omega)))):p:=h
theorem qz76{p:Prop}(h:p:=by simp only[List.length_append,List.length_singleton];omega):p:=h
theorem qz77{p:Prop}(h:p:=by have:=HJ2.out;have:=HK2.out;have:=HK3.out;omega):p:=h
theorem qz78{p:Prop}(h:p:=by have:=HK1.out;omega):p:=h
theorem qz79{p:Prop}(h:p:=by(with_reducible repeat(first|apply Kd.R_alloc|apply Kd.R_drewN|apply Kd.R_drew));exact Kd.R_mono HO173.out (fun _ hk=>hk.2)):p:=h
theorem qz80{p:Prop}(h:p:=by(with_reducible repeat(first|apply Kd.R_alloc|apply Kd.R_drewN|apply Kd.R_drew));exact Kd.R_mono HO156.out (fun _ hk=>hk.2)):p:=h
theorem qz81{p:Prop}(h:p:=by repeat(first|exact HB.out|apply below_drew1|(refine below_set ?_ (by omega)))):p:=h
theorem qz82{p:Prop}(h:p:=by simp[intOf];omega):p:=h
theorem qz83{p:Prop}(h:p:=by have:=HK1.out;have:=HK2.out;have:=HJ11.out;have:=HJ39.out;omega):p:=h
theorem qz84{p:Prop}(h:p:=by have:=HK1.out;have:=HK2.out;first|omega|exact Nat.le_refl _):p:=h
theorem qz85{p:Prop}(h:p:=by simp[intOf]):p:=h
theorem qz86{p:Prop}(h:p:=by have:=HK1.out;have:=HK2.out;have:=HJ86.out;omega):p:=h
theorem qz87{p:Prop}(h:p:=by repeat(first|exact Below.refl _ _|apply pw_below_drewN|apply below_drew1)):p:=h
theorem qz88{p:Prop}(h:p:=by simp[results,Tryd.results20,go_sem,g0,g1,g2]):p:=h
theorem qz89{p:Prop}(h:p:=by assumption):p:=h
theorem qz90{p:Prop}(h:p:=by simp;omega):p:=h
theorem qz91{p:Prop}(h:p:=by have:=HK1.out;have:=HK2.out;omega):p:=h
theorem qz92{p:Prop}(h:p:=by have:=HJ3.out;have:=HK2.out;omega):p:=h
theorem qz93{p:Prop}(h:p:=by have:=HJ2.out;have:=HK2.out;omega):p:=h
theorem qz94{p:Prop}(h:p:=by simp[results,Tryd.results19,go_sem,g0,g1,g2]):p:=h
theorem qz96{p:Prop}(h:p:=by rw[hg];exact(below_size qz0)):p:=h
end
set_option linter.unusedSimpArgs false
set_option linter.unusedVariables false
section
open Go Go.RowKit YtcafgpincnkcdaaDoorW.PrintWords YtcafgpincnkcdaaDoorW.PrintLast YtcafgpincnkcdaaDoorW.PrintMore
theorem ak{p:Prop}(h:p):Aside0 p:=⟨h⟩
theorem oZ{P:Program}{md:Region.Mode}{ops:Array Oper}{Q:Exit→Act→World→Prop}{S:World→Prop}{ds:List Nat}{oi:Oper}{fuel:Nat}{l:Array Bool}{a:Act}{w:World}(i:Nat)(N:Option Tmp)(l':Array Bool)(h:∀K:Act→World→Prop,Shut (∀a' w',S w'→(S w'→wpAnyLast P md ops Q S ds fuel l' a' w')→K a' w')→if Region.wanted oi (yielded ops a.tmps)=true then Oper.wp P oi a w K Q else K (a.put N undef) w)(hi:ops[i]?=some oi:=by exact rfl)(hN:oi.dst=N:=by exact rfl)(hc:readyB md ops l l' i=true:=by exact one_of HT_.out qz51)(hd:i∉ds:=by decide):wpAnyLast P md ops Q S ds (fuel+1) l a w:=one_ l' hi hN hc hd h
theorem nZ{P:Program}{md:Region.Mode}{ops:Array Oper}{Q:Exit→Act→World→Prop}{S:World→Prop}{ds:List Nat}{fuel:Nat}{l:Array Bool}{a a':Act}{w:World}(h:wpAnyLast P md ops Q S ds fuel l a' w)(ha:a=a':=by(show Act.put _ (some _) _=_;simp only[Act.put,List.setIfInBounds_toArray,List.set_cons_zero,List.set_cons_succ,i64_w,i32_w];rfl)):wpAnyLast P md ops Q S ds fuel l a w:=norm_ ha h
theorem gZ {P : Program} {ops : Array Oper} {Q : Exit → Act → World → Prop} {oi : Oper} {N : Option Tmp} {a : Act} {w : World} {K : Act → World → Prop} {f : FuncId} {fn : Func} {al : Array Operand} {ts : Array TypeId} (hf : P.funcs[f]? = some fn) (args : Array Value) (h : Calls P f args w fun e w' => ∃ v, e = .returned v ∧ K (a.put N v) w') (hname : (fn.name == "runtime.NumGoroutine") = false := by kernel_rfl) (hb : fn.body.isSome = true := by exact rfl) (hw : Region.wanted oi (yielded ops a.tmps) = true := by rfl) (hN : oi.dst = N := by exact rfl) (hop : oi.op = .call { callee := .value (.func f), args := al, argTypes := ts } := by exact rfl) (hargs : al.map a.eval = args := by (try simp only [List.map_toArray, List.map_cons, List.map_nil]); first | done | rfl | (simp only [List.length_drop, List.length_take]; rfl)) : if Region.wanted oi (yielded ops a.tmps) = true then Oper.wp P oi a w K Q else K (a.put N undef) w := goes_ hf hname hb args hw hN hop hargs h
theorem gL {P : Program} {ops : Array Oper} {Q : Exit → Act → World → Prop} {rest : List Oper} {oi : Oper} {a : Act} {w : World} (N : Option Tmp) {f : FuncId} {fn : Func} {al : Array Operand} {ts : Array TypeId} (hf : P.funcs[f]? = some fn) (args : Array Value) (h : Calls P f args w fun e w' => ∃ v, e = .returned v ∧ wpList P ops Q rest (a.put N v) w') (hd : oi.dst = N := by exact rfl) (hg : oi.guard = none := by exact rfl) (hname : (fn.name == "runtime.NumGoroutine") = false := by kernel_rfl) (hb : fn.body.isSome = true := by exact rfl) (hop : oi.op = .call { callee := .value (.func f), args := al, argTypes := ts } := by exact rfl) (hargs : al.map a.eval = args := by (try simp only [List.map_toArray, List.map_cons, List.map_nil]); first | done | rfl | (simp only [List.length_drop, List.length_take]; rfl)) : wpList P ops Q (oi :: rest) a w := goesL_ N hd hg hf hname hb args hop hargs h
theorem bk3{w:World}{g t:Nat}{a0 a1 a2:Value}(h:w.heap[g]?=some (.cells #[a0,a1,a2] t (0,0))):w.cell? ⟨g,0,none⟩=some a0∧w.cell? ⟨g,1,none⟩=some a1∧w.cell? ⟨g,2,none⟩=some a2∧w.frozen? ⟨g,0,none⟩=false∧w.frozen? ⟨g,1,none⟩=false∧w.frozen? ⟨g,2,none⟩=false:=⟨(blk_cell h 0).trans rfl,(blk_cell h 1).trans rfl,(blk_cell h 2).trans rfl,blk_frozen h 0,blk_frozen h 1,blk_frozen h 2⟩
theorem bc5{w:World}{g t:Nat}{a0 a1 a2 a3 a4:Value}(h:w.heap[g]?=some (.cells #[a0,a1,a2,a3,a4] t (0,0))):w.cell? ⟨g,0,none⟩=some a0∧w.cell? ⟨g,1,none⟩=some a1∧w.cell? ⟨g,2,none⟩=some a2∧w.cell? ⟨g,3,none⟩=some a3∧w.cell? ⟨g,4,none⟩=some a4:=⟨(blk_cell h 0).trans rfl,(blk_cell h 1).trans rfl,(blk_cell h 2).trans rfl,(blk_cell h 3).trans rfl,(blk_cell h 4).trans rfl⟩
theorem bk5{w:World}{g t:Nat}{a0 a1 a2 a3 a4:Value}(h:w.heap[g]?=some (.cells #[a0,a1,a2,a3,a4] t (0,0))):w.cell? ⟨g,0,none⟩=some a0∧w.cell? ⟨g,1,none⟩=some a1∧w.cell? ⟨g,2,none⟩=some a2∧w.cell? ⟨g,3,none⟩=some a3∧w.cell? ⟨g,4,none⟩=some a4∧w.frozen? ⟨g,0,none⟩=false∧w.frozen? ⟨g,1,none⟩=false∧w.frozen? ⟨g,2,none⟩=false∧w.frozen? ⟨g,3,none⟩=false∧w.frozen? ⟨g,4,none⟩=false:=⟨(blk_cell h 0).trans rfl,(blk_cell h 1).trans rfl,(blk_cell h 2).trans rfl,(blk_cell h 3).trans rfl,(blk_cell h 4).trans rfl,blk_frozen h 0,blk_frozen h 1,blk_frozen h 2,blk_frozen h 3,blk_frozen h 4⟩
end
section
open YtcafgpincnkcdaaDoorW.PrintWords
theorem nft:¬(false=true):=by decide
theorem ob{α β:Type}{o:Option α}{f:α→Option β}{r:β}(h:o.bind f=some r):∃a,Aside0 (o=some a)∧f a=some r:=by obtain⟨a,h1,h2⟩:=Option.bind_eq_some_iff.mp h;exact⟨a,⟨h1⟩,h2⟩
theorem ob2{α β:Type}{e:α}{f:α→Option β}{r:β}(h:(some e).bind f=some r):∃y,Aside0 (y=e)∧f y=some r:=⟨e,⟨rfl⟩,h⟩
end
namespace A
open Go.RowKit YtcafgpincnkcdaaDoorW.PrintWords YtcafgpincnkcdaaDoorW.PrintLast YtcafgpincnkcdaaDoorW.PrintMore
attribute [local go_sem] max2_int min2_int max_two min_two max_three min_three max_four min_four
def errW:Option Int→Value
  |none=> .nilIface
  |some c=> .iface 0 (.int .i64 c)
theorem errW_none:errW none= .nilIface:=rfl
theorem errW_some(c:Int):errW (some c)= .iface 0 (.int .i64 c):=rfl
theorem info3:(Tryd.prog.info? 3).map (fun i=>(i.zero,i.size,i.bytes))=some (some (.int .i64 0),1,8):=by kernel_rfl
theorem info31:(Tryd.prog.info? 31).map (fun i=>(i.zero,i.size,i.bytes))=some (some (.agg #[(.int .i64 0),(.int .i64 0),(.int .i64 0)]),3,24):=by kernel_rfl
theorem info49:(Tryd.prog.info? 49).map (fun i=>(i.zero,i.size,i.bytes))=some (some (.agg #[(.int .i64 0),(.int .i64 0),(.int .i64 0),(.int .i64 0),(.int .i64 0)]),5,40):=by kernel_rfl
structure S31 where
  f0:Int
  f1:Int
  f2:Int
def z31:S31:=⟨(0:Int),(0:Int),(0:Int)⟩
def k31:Kd S31:=Kd.iso (Kd.pair (Kd.int .i64) (Kd.pair (Kd.int .i64) (Kd.int .i64))) (fun x:S31=>(x.f0,x.f1,x.f2))
theorem k31_open{w:World}{x:S31}{cs:List Value}(h:k31.K w x cs):cs=[.int .i64 x.f0,.int .i64 x.f1,.int .i64 x.f2]:=by
  obtain⟨_,_,rfl,rfl,⟨_,_,rfl,rfl,rfl⟩⟩:=h;exact rfl
theorem k31_openM{w:World}{base:Nat}{ok:Nat→Prop}{x:S31}{cs:List Value}(h:k31.M w base ok x cs):cs=[.int .i64 x.f0,.int .i64 x.f1,.int .i64 x.f2]:=by
  obtain⟨_,_,rfl,rfl,⟨_,_,rfl,rfl,rfl⟩⟩:=h;exact rfl
theorem k31_mkM(w:World)(base:Nat)(ok:Nat→Prop)(x:S31):k31.M w base ok x [.int .i64 x.f0,.int .i64 x.f1,.int .i64 x.f2]:=⟨[.int .i64 x.f0],[.int .i64 x.f1,.int .i64 x.f2],rfl,rfl,⟨[.int .i64 x.f1],[.int .i64 x.f2],rfl,rfl,rfl⟩⟩
def rd_T31(xs:List S31)(i:Int):S31:=xs.getD i.toNat z31
theorem at_T31{w:World}{A:Option Addr}{n:Nat}{xs:List S31}(h:Kd.C k31 w A n xs)(i:Int)(h0:0≤i)(h1:i<n):∃ad,A=some ad∧w.cell? (ad.add (i.toNat*3))=some (.int .i64 (rd_T31 xs i).f0)∧w.cell? ⟨(ad.add (i.toNat*3)).block,(ad.add (i.toNat*3)).off+1,none⟩=some (.int .i64 (rd_T31 xs i).f1)∧w.cell? ⟨(ad.add (i.toNat*3)).block,(ad.add (i.toNat*3)).off+2,none⟩=some (.int .i64 (rd_T31 xs i).f2):=by
  obtain⟨ad,c,e,_,hK,hc0⟩:=Kd.C_get h z31 i h0 h1;have hc:∀j u,c[j]?=some u→w.cell? (ad.add (i.toNat*3+j))=some u:=hc0
  obtain rfl:=k31_open hK;exact⟨ad,e,hc 0 _ rfl,(by rw[←add_field _ _ 1 (by omega)];exact hc 1 _ rfl),(by rw[←add_field _ _ 2 (by omega)];exact hc 2 _ rfl)⟩
structure S49 where
  f0:Int
  f1:Int
  f2:Int
  f3:Int
  f4:Int
def z49:S49:=⟨(0:Int),(0:Int),(0:Int),(0:Int),(0:Int)⟩
def k49:Kd S49:=Kd.iso (Kd.pair (Kd.int .i64) (Kd.pair (Kd.int .i64) (Kd.pair (Kd.int .i64) (Kd.pair (Kd.int .i64) (Kd.int .i64))))) (fun x:S49=>(x.f0,x.f1,x.f2,x.f3,x.f4))
theorem k49_open{w:World}{x:S49}{cs:List Value}(h:k49.K w x cs):cs=[.int .i64 x.f0,.int .i64 x.f1,.int .i64 x.f2,.int .i64 x.f3,.int .i64 x.f4]:=by
  obtain⟨_,_,rfl,rfl,⟨_,_,rfl,rfl,⟨_,_,rfl,rfl,⟨_,_,rfl,rfl,rfl⟩⟩⟩⟩:=h;exact rfl
theorem k49_openM{w:World}{base:Nat}{ok:Nat→Prop}{x:S49}{cs:List Value}(h:k49.M w base ok x cs):cs=[.int .i64 x.f0,.int .i64 x.f1,.int .i64 x.f2,.int .i64 x.f3,.int .i64 x.f4]:=by
  obtain⟨_,_,rfl,rfl,⟨_,_,rfl,rfl,⟨_,_,rfl,rfl,⟨_,_,rfl,rfl,rfl⟩⟩⟩⟩:=h;exact rfl
theorem k49_mkM(w:World)(base:Nat)(ok:Nat→Prop)(x:S49):k49.M w base ok x [.int .i64 x.f0,.int .i64 x.f1,.int .i64 x.f2,.int .i64 x.f3,.int .i64 x.f4]:=⟨[.int .i64 x.f0],[.int .i64 x.f1,.int .i64 x.f2,.int .i64 x.f3,.int .i64 x.f4],rfl,rfl,⟨[.int .i64 x.f1],[.int .i64 x.f2,.int .i64 x.f3,.int .i64 x.f4],rfl,rfl,⟨[.int .i64 x.f2],[.int .i64 x.f3,.int .i64 x.f4],rfl,rfl,⟨[.int .i64 x.f3],[.int .i64 x.f4],rfl,rfl,rfl⟩⟩⟩⟩
def rd_T49(xs:List S49)(i:Int):S49:=xs.getD i.toNat z49
theorem at_T49{w:World}{A:Option Addr}{n:Nat}{xs:List S49}(h:Kd.C k49 w A n xs)(i:Int)(h0:0≤i)(h1:i<n):∃ad,A=some ad∧w.cell? (ad.add (i.toNat*5))=some (.int .i64 (rd_T49 xs i).f0)∧w.cell? ⟨(ad.add (i.toNat*5)).block,(ad.add (i.toNat*5)).off+1,none⟩=some (.int .i64 (rd_T49 xs i).f1)∧w.cell? ⟨(ad.add (i.toNat*5)).block,(ad.add (i.toNat*5)).off+2,none⟩=some (.int .i64 (rd_T49 xs i).f2)∧w.cell? ⟨(ad.add (i.toNat*5)).block,(ad.add (i.toNat*5)).off+3,none⟩=some (.int .i64 (rd_T49 xs i).f3)∧w.cell? ⟨(ad.add (i.toNat*5)).block,(ad.add (i.toNat*5)).off+4,none⟩=some (.int .i64 (rd_T49 xs i).f4):=by
  obtain⟨ad,c,e,_,hK,hc0⟩:=Kd.C_get h z49 i h0 h1;have hc:∀j u,c[j]?=some u→w.cell? (ad.add (i.toNat*5+j))=some u:=hc0
  obtain rfl:=k49_open hK;exact⟨ad,e,hc 0 _ rfl,(by rw[←add_field _ _ 1 (by omega)];exact hc 1 _ rfl),(by rw[←add_field _ _ 2 (by omega)];exact hc 2 _ rfl),(by rw[←add_field _ _ 3 (by omega)];exact hc 3 _ rfl),(by rw[←add_field _ _ 4 (by omega)];exact hc 4 _ rfl)⟩
end A
end Go.Proofs.YtcafgpincnkcdaaDoor
