-- Written by a program of this session (wip/mp.py), which runs the kit's print with contracts of the session's own.
import Derived.Test.YtbbdjoahdbjljaaPx0
namespace Go.Proofs.Ytbbdjoahdbjljaa.P
open Go.RowKit Go.Proofs.YtbbdjoahdbjljaaW.PrintWords Go.Proofs.YtbbdjoahdbjljaaW.PrintLast Go.Proofs.YtbbdjoahdbjljaaW.PrintMore
attribute [local go_sem] max2_int min2_int max_two min_two max_three min_three max_four min_four -- for this text's walks alone
set_option linter.unusedVariables false
set_option linter.unusedSimpArgs false
/-! ### spec_clFirst: function 89 -/
def spec_clFirst.l0:Nat→List Int→Int→Option (Int)
 |0,_,_=>none
 |k+1,x0,x3=>if 0≤x3 then (if x3< (x0.length:Int) then (if (rd x0 x3)=0 then (spec_clFirst.l0 k x0 (wrap64 (x3+1))) else (some x3)) else (none)) else (none)
def spec_clFirst.f (k:Nat) (l0:List Int):Option (Int):=spec_clFirst.l0 k l0 0
set_option maxHeartbeats 8000000 in
set_option maxRecDepth 100000 in
theorem spec_clFirst.calls (k:Nat) (A0:Option Addr) (c0:Nat) (l0:List Int) (r:Int) (w:World) (hr0:Kd.C (Kd.int .i64) w A0 l0.length l0) (hc0:l0.length≤c0) (h:spec_clFirst.f k l0=some r):
  Calls Try.prog 89 #[.slice A0 l0.length c0] w fun e w'=>e=.returned (.int .i64 r)∧Drawn0 w w':=by
 have HR0:=Aside0.mk hr0
 have HC0:=Aside0.mk hc0
 clear hr0 hc0
 have H:(spec_clFirst.l0 k l0 0)=some r:=h
 clear h
 have H':=Aside0.mk H
 clear H
 go_enter Try.func89,Try.ntmps89
 go_wp2
 go_loopg [3] k (fun kq v3 w'=>∃ (x3_1:Int),v3=.int .i64 x3_1∧Aside0 (spec_clFirst.l0 kq l0 x3_1=some r)∧Aside0 (kq≤k)∧Drawn0 w w')
 case atStart=>exact ⟨(0),(by first|rfl|(simp;done)|(simp [*];done)),H',⟨Nat.le_refl _⟩,by repeat (first|exact Drawn0.refl _|apply Drawn0.step)⟩
 case round=>
  clear H'
  obtain ⟨x3_1,rfl,HA,HK1,⟨m1,rfl⟩⟩:=hrel
  cases gk with
  |zero=>exact absurd HA.out (by simp [spec_clFirst.l0])
  |succ k1=>
   have H:=HA.out
   clear HA
   simp only [spec_clFirst.l0] at H
   by_cases c2:0≤x3_1
   ·rw [if_pos c2] at H
    have c2b0:decide (0≤x3_1)=true:=decide_eq_true c2
    clear c2
    by_cases c3:x3_1< (l0.length:Int)
    ·rw [if_pos c3] at H
     have c3b0:decide (x3_1< (l0.length:Int))=true:=decide_eq_true c3
     clear c3
     by_cases c4:(rd l0 x3_1)=0
     ·rw [if_pos c4] at H
      have c4b0:((rd l0 x3_1)==0)=true:=beq_iff_eq.mpr c4
      have c4b1:((rd l0 x3_1) !=0)=false:=bne_eq_false_iff_eq.mpr c4
      clear c4
      have H':=Aside0.mk H
      clear H
      have p836:0≤(x3_1:Int):=of_decide_eq_true (by first|(with_reducible assumption)|assumption)
      have q836:x3_1< (l0.length:Int):=of_decide_eq_true (by first|(with_reducible assumption)|assumption)
      obtain ⟨ad836,e836,hx836_0⟩:=Kd.at_int HR0.out x3_1 p836 q836
      cases e836
      replace p836:=eq_true p836
      replace q836:=eq_true q836
      go_wp2
      go_roundg k1
      case measure=>have:=HK1.out;omega
      case rel=>exact ⟨(wrap64 (x3_1+1)),(by first|rfl|(simp;done)|(simp [*];done)),H',⟨by have:=HK1.out;omega⟩,by repeat (first|exact Drawn0.refl _|apply Drawn0.step)⟩
     ·rw [if_neg c4] at H
      have c4b0:((rd l0 x3_1)==0)=false:=beq_eq_false_iff_ne.mpr c4
      have c4b1:((rd l0 x3_1) !=0)=true:=bne_iff_ne.mpr c4
      obtain rfl:=Option.some.inj H
      have p836:0≤(x3_1:Int):=of_decide_eq_true (by first|(with_reducible assumption)|assumption)
      have q836:x3_1< (l0.length:Int):=of_decide_eq_true (by first|(with_reducible assumption)|assumption)
      obtain ⟨ad836,e836,hx836_0⟩:=Kd.at_int HR0.out x3_1 p836 q836
      cases e836
      replace p836:=eq_true p836
      replace q836:=eq_true q836
      go_wp2
      go_ret
      exact ⟨by first|rfl|(simp;done)|(simp [*];done),by repeat (first|exact Drawn0.refl _|apply Drawn0.step)⟩
    ·rw [if_neg c3] at H
     exact absurd H (by simp)
   ·rw [if_neg c2] at H
    exact absurd H (by simp)
end Go.Proofs.Ytbbdjoahdbjljaa.P
