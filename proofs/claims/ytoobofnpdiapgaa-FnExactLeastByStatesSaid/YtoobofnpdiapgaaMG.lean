/- Polynomials over two elements as natural numbers: sums, products, remainders. Plain Lean, no program. The machine's words on bits, at natural numbers below 2^63. How many bits are set: the trick of the machine's library, at every number of 16 bits. Sets of buttons as natural numbers: sums, bases with distinct tops, what presses make. Plain Lean, no program. Systems with steps: sums taken off, bases, and the theorem on the diagonal of a symmetric system. Plain Lean, no program. What the program's and the model's steps on bases and systems answer, at natural numbers. The program's solver, and the model's systems: what they hold behind all effects. The model's systems of equations: steps, the least solution. The program's solver and the model's systems answer alike. Small words: what stays when it is wrapped, and a row read at a place. Graphs as lists of rows: the words. What the program's 'is it a graph' answers. 'All are from lo to hi.' What 'is it a graph' answers on both sides. Counting. -/
import Derived.Test.YtoobofnpdiapgaaWMore
import Derived.Lib.BitFns
import Derived.Test.YtoobofnpdiapgaaPx1
import Derived.Test.YtoobofnpdiapgaaPx10
import Derived.Test.YtoobofnpdiapgaaPx11
import Derived.Test.YtoobofnpdiapgaaPx4
import Derived.Test.YtoobofnpdiapgaaPx8
import Derived.Test.YtoobofnpdiapgaaPx9
import Derived.Test.YtoobofnpdiapgaaPx12
import Derived.Test.YtoobofnpdiapgaaPx5
import Derived.Test.YtoobofnpdiapgaaPx3
import Derived.Test.YtoobofnpdiapgaaPx7
namespace Go.Proofs.Ytoobofnpdiapgaa.Gf
set_option linter.unusedVariables false
set_option linter.unusedSimpArgs false
/-- How many bits a number takes. -/
def bl (n:Nat):Nat:=if n=0 then 0 else n.log2+1
theorem bl_zero:bl 0=0:=rfl
theorem bl_pos {n:Nat} (h:n≠0):bl n=n.log2+1:=by unfold bl;rw [if_neg h]
theorem bl_le_iff {n k:Nat}:bl n≤k↔n< 2 ^ k:=by
  unfold bl
  by_cases h:n=0
  · subst h;simp [Nat.two_pow_pos]
  · rw [if_neg h]
    have:=Nat.log2_lt (k:=k) h
    omega
theorem lt_bl (n:Nat):n< 2 ^ bl n:=bl_le_iff.1 (Nat.le_refl _)
theorem bl_eq_zero {n:Nat}:bl n=0↔n=0:=by
  unfold bl;split<;>simp_all
theorem bl_half {n:Nat} (h:n≠0):bl n=bl (n / 2)+1:=by
  have key:∀ k,bl n≤k+1↔bl (n / 2)≤k:=by
    intro k
    rw [bl_le_iff,bl_le_iff,Nat.pow_succ]
    omega
  have h1:=(key (bl (n / 2))).2 (Nat.le_refl _)
  have h2:bl n≠0:=fun e=>h (bl_eq_zero.1 e)
  have h3:=(key (bl n - 1)).1 (by omega)
  omega
theorem top_bit {n:Nat} (h:n≠0):n.testBit (bl n - 1)=true:=by
  rw [bl_pos h];simpa using Nat.testBit_log2 h
theorem above {n i:Nat} (h:bl n≤i):n.testBit i=false:=Nat.testBit_lt_two_pow (bl_le_iff.1 h)
theorem bl_ge {n i:Nat} (h:n.testBit i=true):i< bl n:=by
  rcases Nat.lt_or_ge i (bl n) with h'|h'
  · exact h'
  · rw [above h'] at h;cases h
theorem bl_xor_le (a b k:Nat) (ha:bl a≤k) (hb:bl b≤k):bl (a ^^^ b)≤k:=
  bl_le_iff.2 (Nat.xor_lt_two_pow (bl_le_iff.1 ha) (bl_le_iff.1 hb))
theorem bl_shift {n:Nat} (h:n≠0) (k:Nat):bl (n<<< k)=bl n+k:=by
  have key:∀ j,bl (n<<< k)≤j+k↔bl n≤j:=by
    intro j
    rw [bl_le_iff,bl_le_iff,Nat.shiftLeft_eq,Nat.pow_add]
    exact ⟨fun h=>Nat.lt_of_mul_lt_mul_right h,fun h=>Nat.mul_lt_mul_of_pos_right h (Nat.two_pow_pos k)⟩
  have h1:=(key (bl n)).2 (Nat.le_refl _)
  have hne:n<<< k≠0:=by rw [Ne,Nat.shiftLeft_eq_zero_iff];exact h
  have h3:bl n≠0:=fun e=>h (bl_eq_zero.1 e)
  have h2:k≤bl (n<<< k):=by
    have hb:(n<<< k).testBit (bl n - 1+k)=true:=by
      rw [Nat.testBit_shiftLeft];simp [top_bit h]
    have:=bl_ge hb
    omega
  have:=(key (bl (n<<< k) - k)).1 (by omega)
  omega
/-- Two numbers with one top: their sum lies below. -/
theorem bl_xor_lt {a b:Nat} (ha:a≠0) (h:bl a=bl b):bl (a ^^^ b)< bl a:=by
  have hb:b≠0:=fun e=>by subst e;rw [bl_zero] at h;exact ha (bl_eq_zero.1 h)
  have hp:0< bl a:=Nat.pos_of_ne_zero (fun e=>ha (bl_eq_zero.1 e))
  have:bl (a ^^^ b)≤bl a - 1:=by
    rw [bl_le_iff]
    refine Nat.lt_pow_two_of_testBit _ fun i hi=>?_
    rw [Nat.testBit_xor]
    by_cases e:i=bl a - 1
    · subst e;rw [top_bit ha,h,top_bit hb];rfl
    · rw [above (n:=a) (by omega),above (n:=b) (by omega)];rfl
  omega
theorem bl_xor_ne {a b:Nat} (h:bl b< bl a):bl (a ^^^ b)=bl a:=by
  have ha:a≠0:=fun e=>by subst e;rw [bl_zero] at h;omega
  have h1:bl (a ^^^ b)≤bl a:=bl_xor_le _ _ _ (Nat.le_refl _) (by omega)
  have h2:(a ^^^ b).testBit (bl a - 1)=true:=by
    rw [Nat.testBit_xor,top_bit ha,above (n:=b) (by omega)];rfl
  have:=bl_ge h2
  omega
/-- The product. -/
def mul (a:Nat) (b:Nat):Nat:=if b=0 then 0 else (if b % 2=1 then a else 0) ^^^ (2*mul a (b / 2))
decreasing_by omega
theorem mul_zero (a:Nat):mul a 0=0:=by rw [mul,if_pos rfl]
theorem mul_step (a b:Nat):mul a b=(if b % 2=1 then a else 0) ^^^ (2*mul a (b / 2)):=by
  by_cases h:b=0
  · subst h;rw [mul_zero];simp [mul_zero]
  · rw [mul,if_neg h]
theorem two_xor (a b:Nat):2*(a ^^^ b)=(2*a) ^^^ (2*b):=by
  have:=@Nat.shiftLeft_xor_distrib 1 a b
  simp only [Nat.shiftLeft_eq,Nat.pow_one] at this
  rw [Nat.mul_comm 2,Nat.mul_comm 2,Nat.mul_comm 2];exact this
theorem ite_xor (c:Prop) [Decidable c] (a b:Nat):(if c then a ^^^ b else 0)=(if c then a else 0) ^^^ (if c then b else 0):=by
  split<;>simp
theorem xor4 (a b c d:Nat):(a ^^^ b) ^^^ (c ^^^ d)=(a ^^^ c) ^^^ (b ^^^ d):=by
  rw [Nat.xor_assoc,Nat.xor_assoc,← Nat.xor_assoc b c d,← Nat.xor_assoc c b d,Nat.xor_comm b c]
theorem zero_mul (b:Nat):mul 0 b=0:=by
  induction b using Nat.strongRecOn with
  |_ b ih=>
    by_cases h:b=0
    · subst h;exact mul_zero 0
    · rw [mul_step,ih (b / 2) (by omega)];simp
theorem mul_xor_left (a c b:Nat):mul (a ^^^ c) b=mul a b ^^^ mul c b:=by
  induction b using Nat.strongRecOn with
  |_ b ih=>
    by_cases h:b=0
    · subst h;simp [mul_zero]
    · rw [mul_step (a ^^^ c),mul_step a,mul_step c,ih (b / 2) (by omega),two_xor,ite_xor,xor4]
theorem mul_two_left (a b:Nat):mul (2*a) b=2*mul a b:=by
  induction b using Nat.strongRecOn with
  |_ b ih=>
    by_cases h:b=0
    · subst h;simp [mul_zero]
    · rw [mul_step (2*a),mul_step a,ih (b / 2) (by omega),two_xor]
      congr 1
      split<;>simp
theorem mul_xor_right (a b c:Nat):mul a (b ^^^ c)=mul a b ^^^ mul a c:=by
  induction b using Nat.strongRecOn generalizing c with
  |_ b ih=>
    by_cases h:b=0
    · subst h;simp [mul_zero]
    · rw [mul_step a (b ^^^ c),mul_step a b,mul_step a c,Nat.xor_div_two,ih (b / 2) (by omega),two_xor,xor4]
      congr 1
      have hx:=@Nat.xor_mod_two_eq_one b c
      by_cases h1:b % 2=1<;>by_cases h2:c % 2=1<;>simp only [h1,h2,if_true,if_false,iff_true,iff_false,not_true,not_false_iff] at hx ⊢
      · rw [if_neg hx];simp
      · rw [if_pos hx];simp
      · rw [if_pos hx];simp
      · rw [if_neg hx];simp
theorem mul_one (a:Nat):mul a 1=a:=by rw [mul_step];simp [mul_zero]
theorem mul_two (a b:Nat):mul a (2*b)=2*mul a b:=by
  rw [mul_step]
  have h1:2*b % 2=0:=by omega
  have h2:2*b / 2=b:=by omega
  rw [h1,h2];simp
/-- A number is its last bit and twice its half. -/
theorem bit_split (a:Nat):a=(a % 2) ^^^ (2*(a / 2)):=by
  apply Nat.eq_of_testBit_eq
  intro i
  rw [Nat.testBit_xor]
  cases i with
  |zero=>
    rw [Nat.testBit_zero,Nat.testBit_zero,Nat.testBit_zero]
    have:2*(a / 2) % 2=0:=by omega
    rw [this]
    simp
  |succ i=>
    rw [Nat.testBit_add_one,Nat.testBit_add_one,Nat.testBit_add_one]
    have h1:a % 2 / 2=0:=by omega
    have h2:2*(a / 2) / 2=a / 2:=by omega
    rw [h1,h2];simp
theorem one_mul (b:Nat):mul 1 b=b:=by
  induction b using Nat.strongRecOn with
  |_ b ih=>
    by_cases h:b=0
    · subst h;exact mul_zero 1
    · rw [mul_step,ih (b / 2) (by omega)]
      conv=>rhs;rw [bit_split b]
      congr 1
      split<;>omega
theorem mul_comm (a b:Nat):mul a b=mul b a:=by
  induction b using Nat.strongRecOn generalizing a with
  |_ b ih=>
    by_cases h:b=0
    · subst h;rw [mul_zero,zero_mul]
    · conv=>rhs;rw [bit_split b]
      rw [mul_xor_left,mul_two_left,mul_step a b,ih (b / 2) (by omega)]
      congr 1
      split
      · rename_i h1;rw [h1,one_mul]
      · have h0:b % 2=0:=by omega
        rw [h0,zero_mul]
theorem mul_assoc (a b c:Nat):mul (mul a b) c=mul a (mul b c):=by
  induction c using Nat.strongRecOn with
  |_ c ih=>
    by_cases h:c=0
    · subst h;simp [mul_zero]
    · rw [mul_step _ c,mul_step b c,mul_xor_right,mul_two,ih (c / 2) (by omega)]
      congr 1
      split<;>simp [mul_zero]
theorem mul_shift (a k:Nat):mul a (1<<< k)=a<<< k:=by
  induction k with
  |zero=>simp [mul_one]
  |succ k ih=>
    have h1:1<<< (k+1)=2*(1<<< k):=by simp [Nat.shiftLeft_eq,Nat.pow_succ];omega
    have h2:a<<< (k+1)=2*(a<<< k):=by
      rw [Nat.shiftLeft_eq,Nat.shiftLeft_eq,Nat.pow_succ,← Nat.mul_assoc,Nat.mul_comm]
    rw [h1,mul_two,ih,h2]
theorem bl_two_mul {a:Nat} (h:a≠0):bl (2*a)=bl a+1:=by
  have:=bl_shift h 1
  rw [Nat.shiftLeft_eq,Nat.pow_one,Nat.mul_comm] at this
  exact this
/-- Degrees add up. -/
theorem bl_mul {a b:Nat} (ha:a≠0) (hb:b≠0):bl (mul a b)+1=bl a+bl b:=by
  induction b using Nat.strongRecOn with
  |_ b ih=>
    rw [mul_step]
    have hA:0< bl a:=Nat.pos_of_ne_zero (fun e=>ha (bl_eq_zero.1 e))
    by_cases h1:b / 2=0
    · have hb1:b=1:=by omega
      subst hb1
      have:bl 1=1:=by rfl
      simp [mul_zero,this]
    · have e:=ih (b / 2) (by omega) h1
      have hbh:=bl_half hb
      have hm:mul a (b / 2)≠0:=by
        intro z;rw [z,bl_zero] at e
        have:0< bl (b / 2):=Nat.pos_of_ne_zero (fun e=>h1 (bl_eq_zero.1 e))
        omega
      have hB:0< bl (b / 2):=Nat.pos_of_ne_zero (fun e=>h1 (bl_eq_zero.1 e))
      have h2:=bl_two_mul hm
      rw [Nat.xor_comm,bl_xor_ne]
      · omega
      · split
        · omega
        · rw [bl_zero];omega
theorem mul_ne_zero {a b:Nat} (ha:a≠0) (hb:b≠0):mul a b≠0:=by
  intro e
  have:=bl_mul ha hb
  rw [e,bl_zero] at this
  have h1:0< bl a:=Nat.pos_of_ne_zero (fun e=>ha (bl_eq_zero.1 e))
  have h2:0< bl b:=Nat.pos_of_ne_zero (fun e=>hb (bl_eq_zero.1 e))
  omega
theorem xor_eq_zero {a b:Nat}:a ^^^ b=0↔a=b:=by
  constructor
  · intro h
    have:(a ^^^ b) ^^^ b=b:=by rw [h];simp
    rwa [Nat.xor_assoc,Nat.xor_self,Nat.xor_zero] at this
  · rintro rfl;exact Nat.xor_self _
theorem xor_cancel (a b:Nat):(a ^^^ b) ^^^ b=a:=by rw [Nat.xor_assoc,Nat.xor_self,Nat.xor_zero]
theorem xor_cancel_left (a b:Nat):a ^^^ (a ^^^ b)=b:=by rw [← Nat.xor_assoc,Nat.xor_self,Nat.zero_xor]
theorem xor_swap {a b c:Nat} (h:a ^^^ b=c):a=c ^^^ b:=by rw [← h,xor_cancel]
/-- The quotient and the rest. -/
def divMod (p q:Nat):Nat × Nat:=
  if h:q≠0∧bl q≤bl p then
    let r:=divMod (p ^^^ (q<<< (bl p - bl q))) q
    (r.1 ^^^ (1<<< (bl p - bl q)),r.2)
  else (0,p)
termination_by bl p
decreasing_by
  have hp:p≠0:=fun e=>by
    rw [e,bl_zero] at h
    exact h.1 (bl_eq_zero.1 (by omega))
  have:bl (q<<< (bl p - bl q))=bl p:=by rw [bl_shift h.1];omega
  exact bl_xor_lt hp this.symm
theorem divMod_step {p q:Nat} (hq:q≠0) (h:bl q≤bl p):
    divMod p q=((divMod (p ^^^ (q<<< (bl p - bl q))) q).1 ^^^ (1<<< (bl p - bl q)),(divMod (p ^^^ (q<<< (bl p - bl q))) q).2):=by
  rw [divMod,dif_pos ⟨hq,h⟩]
theorem divMod_done {p q:Nat} (h:bl p< bl q):divMod p q=(0,p):=by
  rw [divMod,dif_neg (by omega)]
theorem down_lt {p q:Nat} (hq:q≠0) (h:bl q≤bl p):bl (p ^^^ (q<<< (bl p - bl q)))< bl p:=by
  have hp:p≠0:=fun e=>by
    rw [e,bl_zero] at h
    exact hq (bl_eq_zero.1 (by omega))
  have:bl (q<<< (bl p - bl q))=bl p:=by rw [bl_shift hq];omega
  exact bl_xor_lt hp this.symm
theorem divMod_spec {q:Nat} (hq:q≠0) (p:Nat):mul (divMod p q).1 q ^^^ (divMod p q).2=p∧bl (divMod p q).2< bl q:=by
  generalize hn:bl p=n
  induction n using Nat.strongRecOn generalizing p with
  |_ n ih=>
    by_cases h:bl q≤bl p
    · rw [divMod_step hq h]
      have hlt:=down_lt hq h
      have:=ih _ (by omega) (p ^^^ (q<<< (bl p - bl q))) rfl
      refine ⟨?_,this.2⟩
      show mul (_ ^^^ _) q ^^^ _=p
      rw [mul_xor_left,mul_comm (1<<< _),mul_shift,Nat.xor_assoc,Nat.xor_comm (q<<< _),← Nat.xor_assoc,this.1,xor_cancel]
    · rw [divMod_done (by omega)]
      exact ⟨by simp [zero_mul],by show bl p< bl q;omega⟩
theorem divMod_unique {q:Nat} (hq:q≠0) {p s r:Nat} (h:mul s q ^^^ r=p) (hr:bl r< bl q):divMod p q=(s,r):=by
  obtain ⟨h1,h2⟩:=divMod_spec hq p
  have e:mul ((divMod p q).1 ^^^ s) q=(divMod p q).2 ^^^ r:=by
    rw [mul_xor_left]
    have:=h1.trans h.symm
    have h3:=xor_swap this
    rw [h3,Nat.xor_assoc,Nat.xor_assoc,Nat.xor_comm (mul s q),← Nat.xor_assoc,Nat.xor_comm r]
    rw [Nat.xor_assoc,Nat.xor_assoc,Nat.xor_self,Nat.xor_zero]
  by_cases hs:(divMod p q).1 ^^^ s=0
  · rw [hs,zero_mul] at e
    have e1:=xor_eq_zero.1 hs
    have e2:=xor_eq_zero.1 e.symm
    exact Prod.ext e1 e2
  · have:=bl_mul hs hq
    rw [e] at this
    have h4:bl ((divMod p q).2 ^^^ r)≤bl q - 1:=bl_xor_le _ _ _ (by omega) (by omega)
    have h5:0< bl ((divMod p q).1 ^^^ s):=Nat.pos_of_ne_zero (fun e=>hs (bl_eq_zero.1 e))
    omega
def rest (p q:Nat):Nat:=(divMod p q).2
theorem rest_lt {q:Nat} (hq:q≠0) (p:Nat):bl (rest p q)< bl q:=(divMod_spec hq p).2
theorem rest_xor {q:Nat} (hq:q≠0) (a b:Nat):rest (a ^^^ b) q=rest a q ^^^ rest b q:=by
  obtain ⟨a1,a2⟩:=divMod_spec hq a
  obtain ⟨b1,b2⟩:=divMod_spec hq b
  have:divMod (a ^^^ b) q=((divMod a q).1 ^^^ (divMod b q).1,(divMod a q).2 ^^^ (divMod b q).2):=by
    apply divMod_unique hq
    · rw [mul_xor_left,xor4,a1,b1]
    · have:=bl_xor_le (divMod a q).2 (divMod b q).2 (bl q - 1) (by omega) (by omega)
      omega
  unfold rest;rw [this]
theorem rest_mul_right {q:Nat} (hq:q≠0) (s:Nat):rest (mul s q) q=0:=by
  have:divMod (mul s q) q=(s,0):=divMod_unique hq (by simp) (by rw [bl_zero];exact Nat.pos_of_ne_zero (fun e=>hq (bl_eq_zero.1 e)))
  unfold rest;rw [this]
/-- q divides p. -/
def Dv (q p:Nat):Prop:=∃ s,mul s q=p
theorem Dv.refl (a:Nat):Dv a a:=⟨1,one_mul a⟩
theorem Dv.zero (a:Nat):Dv a 0:=⟨0,zero_mul a⟩
theorem Dv.trans {a b c:Nat} (h:Dv a b) (k:Dv b c):Dv a c:=by
  obtain ⟨s,rfl⟩:=h;obtain ⟨t,rfl⟩:=k
  exact ⟨mul t s,mul_assoc t s a⟩
theorem Dv.xor {a b c:Nat} (h:Dv a b) (k:Dv a c):Dv a (b ^^^ c):=by
  obtain ⟨s,rfl⟩:=h;obtain ⟨t,rfl⟩:=k
  exact ⟨s ^^^ t,mul_xor_left s t a⟩
theorem Dv.mul_left {a b:Nat} (h:Dv a b) (c:Nat):Dv a (mul c b):=by
  obtain ⟨s,rfl⟩:=h
  exact ⟨mul c s,mul_assoc c s a⟩
theorem Dv.bl_le {a b:Nat} (h:Dv a b) (hb:b≠0):bl a≤bl b:=by
  obtain ⟨s,rfl⟩:=h
  have hs:s≠0:=fun e=>hb (by rw [e,zero_mul])
  have ha:a≠0:=fun e=>hb (by rw [e,mul_zero])
  have:=bl_mul hs ha
  have:0< bl s:=Nat.pos_of_ne_zero (fun e=>hs (bl_eq_zero.1 e))
  omega
theorem bl_le_one {a:Nat} (h:bl a≤1):a=0∨a=1:=by
  have:=bl_le_iff.1 h
  omega
/-- The greatest common divisor. -/
def gcd (p q:Nat):Nat:=if h:q=0 then p else gcd q (rest p q)
termination_by bl q
decreasing_by exact rest_lt h p
theorem gcd_zero (p:Nat):gcd p 0=p:=by rw [gcd,dif_pos rfl]
theorem gcd_step {p q:Nat} (h:q≠0):gcd p q=gcd q (rest p q):=by rw [gcd,dif_neg h]
end Go.Proofs.Ytoobofnpdiapgaa.Gf
namespace Go.Proofs.Ytoobofnpdiapgaa.Bt
open Go.RowKit Go.Proofs.YtoobofnpdiapgaaW.PrintWords Go.Proofs.YtoobofnpdiapgaaW.PrintLast Go.Proofs.YtoobofnpdiapgaaW.PrintMore
set_option linter.unusedVariables false
set_option linter.unusedSimpArgs false
theorem wrap_id {x:Int} (h0:-9223372036854775808≤x) (h:x< 9223372036854775808):wrap64 x=x:=by unfold wrap64;omega
theorem wrap_nat {n:Nat} (h:n< 9223372036854775808):wrap64 (n:Int)=n:=wrap_id (by omega) (by omega)
theorem ofInt_nat {a:Nat} (h:a< 9223372036854775808):(BitVec.ofInt 64 (a:Int)).toNat=a:=by
  rw [BitVec.toNat_ofInt];omega
theorem bits_xor {a b:Nat} (ha:a< 9223372036854775808) (hb:b< 9223372036854775808):Go.bits .xor .i64 (a:Int) (b:Int)=((a ^^^ b:Nat):Int):=by
  have h:a ^^^ b< 2 ^ 63:=Nat.xor_lt_two_pow (by simpa using ha) (by simpa using hb)
  show IntKind.i64.wrap ((BitVec.ofInt 64 (a:Int) ^^^ BitVec.ofInt 64 (b:Int)).toNat:Int)=_
  rw [BitVec.toNat_xor,ofInt_nat ha,ofInt_nat hb,i64_w,wrap_nat (by simpa using h)]
theorem bits_or {a b:Nat} (ha:a< 9223372036854775808) (hb:b< 9223372036854775808):Go.bits .or .i64 (a:Int) (b:Int)=((a|||b:Nat):Int):=by
  have h:a|||b< 2 ^ 63:=Nat.or_lt_two_pow (by simpa using ha) (by simpa using hb)
  show IntKind.i64.wrap ((BitVec.ofInt 64 (a:Int)|||BitVec.ofInt 64 (b:Int)).toNat:Int)=_
  rw [BitVec.toNat_or,ofInt_nat ha,ofInt_nat hb,i64_w,wrap_nat (by simpa using h)]
theorem bits_and {a b:Nat} (ha:a< 9223372036854775808) (hb:b< 9223372036854775808):Go.bits .and .i64 (a:Int) (b:Int)=((a &&& b:Nat):Int):=by
  have h:a &&& b< 2 ^ 63:=Nat.and_lt_two_pow _ (by simpa using hb)
  show IntKind.i64.wrap ((BitVec.ofInt 64 (a:Int) &&& BitVec.ofInt 64 (b:Int)).toNat:Int)=_
  rw [BitVec.toNat_and,ofInt_nat ha,ofInt_nat hb,i64_w,wrap_nat (by simpa using h)]
theorem shl_nat {a n:Nat} (hn:n≤64) (h:a*2 ^ n< 9223372036854775808):shl .i64 (a:Int) (n:Int)=((a<<< n:Nat):Int):=by
  unfold shl
  rw [i64_w,Nat.shiftLeft_eq,Int.toNat_natCast,Nat.min_eq_left (by simpa [IntKind.bits] using hn)]
  have e:(a:Int)*2 ^ n=((a*2 ^ n:Nat):Int):=by simp
  rw [e,wrap_nat h]
theorem shr_nat {a n:Nat} (ha:a< 9223372036854775808):shr .i64 (a:Int) (n:Int)=((a>>>n:Nat):Int):=by
  unfold shr
  rw [Nat.shiftRight_eq_div_pow,Int.toNat_natCast]
  have e:∀ m:Nat,(a:Int) / 2 ^ m=((a / 2 ^ m:Nat):Int):=fun m=>by simp
  rw [e]
  congr 1
  show a / 2 ^ min n 64=_
  rcases Nat.lt_or_ge 64 n with h|h
  · rw [Nat.min_eq_right (by omega),Nat.div_eq_of_lt (by omega),Nat.div_eq_of_lt]
    exact Nat.lt_of_lt_of_le (show a< 2 ^ 64 by omega) (Nat.pow_le_pow_right (by omega) (by omega))
  · rw [Nat.min_eq_left h]
theorem tmod_two (n:Nat):Int.tmod (n:Int) 2=((n % 2:Nat):Int):=by rw [Int.tmod_eq_emod_of_nonneg (by omega)];omega
theorem tdiv_two (n:Nat):Int.tdiv (n:Int) 2=((n / 2:Nat):Int):=by rw [Int.tdiv_eq_ediv_of_nonneg (by omega)];omega
theorem grIn_val {s i:Nat} (hs:s< 9223372036854775808):((Int.tmod (shr .i64 (s:Int) (i:Int)) 2)==1)=s.testBit i:=by
  rw [shr_nat hs,tmod_two,Nat.testBit_eq_decide_div_mod_eq,Nat.shiftRight_eq_div_pow,Bool.eq_iff_iff,beq_iff_eq,decide_eq_true_iff]
  omega
theorem has_val {s i:Nat} (hs:s< 9223372036854775808):((Go.bits .and .i64 (shr .i64 (s:Int) (i:Int)) 1)==1)=s.testBit i:=by
  have h1:s>>>i< 9223372036854775808:=by
    rw [Nat.shiftRight_eq_div_pow]
    exact Nat.lt_of_le_of_lt (Nat.div_le_self _ _) hs
  rw [shr_nat hs,show (1:Int)=((1:Nat):Int) from rfl,bits_and h1 (by omega),Nat.and_one_is_mod,Nat.testBit_eq_decide_div_mod_eq,Nat.shiftRight_eq_div_pow,Bool.eq_iff_iff,beq_iff_eq,decide_eq_true_iff]
  omega
theorem bitLen_bl (n:Nat) (h:n< 18446744073709551616):Go.Lib.bitLen n=Gf.bl n:=by
  have key:∀ f x,x< 2 ^ f→Go.Lib.bitLenAux f x=Gf.bl x:=by
    intro f
    induction f with
    | zero => intro x hx; have : x = 0 := by omega
              subst this;rfl
    |succ f ih=>
      intro x hx
      rw [Go.Lib.bitLenAux]
      split
      · rename_i h0;subst h0;rfl
      · rename_i h0
        rw [ih (x / 2) (by rw [Nat.pow_succ] at hx;omega),Gf.bl_half h0];omega
  exact key 64 n h
end Go.Proofs.Ytoobofnpdiapgaa.Bt
namespace Go.Proofs.Ytoobofnpdiapgaa.Gr
set_option linter.unusedVariables false
set_option linter.unusedSimpArgs false
/-- How many bits are set, of the lowest 16. -/
def pc (n:Nat):Nat:=Go.Lib.popAux 16 n
def trick (n:Nat):Nat:=
  let a:=(n / 2 &&& 6148914691236517205)+(n &&& 6148914691236517205)
  let b:=(a / 4 &&& 3689348814741910323)+(a &&& 3689348814741910323)
  let c:=(b / 16+b) &&& 1085102592571150095
  let d:=c+c / 256
  let e:=d+d / 65536
  let f:=e+e / 4294967296
  f &&& 127
def chk:Nat→Nat→Bool
  |0,a=>Nat.beq (trick a) (pc a)
  |l+1,a=>chk l (2*a) && chk l (2*a+1)
theorem chk_at:∀ (l a:Nat),chk l a=true→∀ n,a*2 ^ l≤n→n< (a+1)*2 ^ l→trick n=pc n:=by
  intro l
  induction l with
  |zero=>
    intro a h n h1 h2
    have:n=a:=by simp at h1 h2;omega
    subst this
    exact Nat.eq_of_beq_eq_true h
  |succ l ih=>
    intro a h n h1 h2
    simp only [chk,Bool.and_eq_true] at h
    have e1:a*2 ^ (l+1)=2*a*2 ^ l:=by rw [Nat.pow_succ,Nat.mul_comm (2 ^ l) 2,← Nat.mul_assoc,Nat.mul_comm a 2]
    have e2:(a+1)*2 ^ (l+1)=2*a*2 ^ l+2*2 ^ l:=by rw [Nat.add_mul,e1,Nat.one_mul,Nat.pow_succ,Nat.mul_comm (2 ^ l) 2]
    have e3:(2*a+1)*2 ^ l=2*a*2 ^ l+2 ^ l:=by rw [Nat.add_mul,Nat.one_mul]
    have e4:(2*a+1+1)*2 ^ l=2*a*2 ^ l+2*2 ^ l:=by rw [Nat.add_assoc,Nat.add_mul]
    rcases Nat.lt_or_ge n ((2*a+1)*2 ^ l) with c|c
    · exact ih (2*a) h.1 n (by omega) c
    · exact ih (2*a+1) h.2 n c (by omega)
theorem chk0:chk 11 0=true:=by decide+kernel
theorem chk1:chk 11 1=true:=by decide+kernel
theorem chk2:chk 11 2=true:=by decide+kernel
theorem chk3:chk 11 3=true:=by decide+kernel
theorem chk4:chk 11 4=true:=by decide+kernel
theorem chk5:chk 11 5=true:=by decide+kernel
theorem chk6:chk 11 6=true:=by decide+kernel
theorem chk7:chk 11 7=true:=by decide+kernel
theorem chk8:chk 11 8=true:=by decide+kernel
theorem chk9:chk 11 9=true:=by decide+kernel
theorem chk10:chk 11 10=true:=by decide+kernel
theorem chk11:chk 11 11=true:=by decide+kernel
theorem chk12:chk 11 12=true:=by decide+kernel
theorem chk13:chk 11 13=true:=by decide+kernel
theorem chk14:chk 11 14=true:=by decide+kernel
theorem chk15:chk 11 15=true:=by decide+kernel
theorem chk16:chk 11 16=true:=by decide+kernel
theorem chk17:chk 11 17=true:=by decide+kernel
theorem chk18:chk 11 18=true:=by decide+kernel
theorem chk19:chk 11 19=true:=by decide+kernel
theorem chk20:chk 11 20=true:=by decide+kernel
theorem chk21:chk 11 21=true:=by decide+kernel
theorem chk22:chk 11 22=true:=by decide+kernel
theorem chk23:chk 11 23=true:=by decide+kernel
theorem chk24:chk 11 24=true:=by decide+kernel
theorem chk25:chk 11 25=true:=by decide+kernel
theorem chk26:chk 11 26=true:=by decide+kernel
theorem chk27:chk 11 27=true:=by decide+kernel
theorem chk28:chk 11 28=true:=by decide+kernel
theorem chk29:chk 11 29=true:=by decide+kernel
theorem chk30:chk 11 30=true:=by decide+kernel
theorem chk31:chk 11 31=true:=by decide+kernel
theorem trick_at {n:Nat} (h:n< 65536):trick n=pc n:=by
  obtain ⟨q,hq⟩:∃ q,q=n / 2048:=⟨_,rfl⟩
  have h1:q< 32:=by omega
  have h2:q*2 ^ 11≤n:=by omega
  have h3:n< (q+1)*2 ^ 11:=by omega
  have h4:chk 11 q=true:=by
    have:q=0∨q=1∨q=2∨q=3∨q=4∨q=5∨q=6∨q=7∨q=8∨q=9∨q=10∨q=11∨q=12∨q=13∨q=14∨q=15∨q=16∨q=17∨q=18∨q=19∨q=20∨q=21∨q=22∨q=23∨q=24∨q=25∨q=26∨q=27∨q=28∨q=29∨q=30∨q=31:=by omega
    rcases this with rfl|rfl|rfl|rfl|rfl|rfl|rfl|rfl|rfl|rfl|rfl|rfl|rfl|rfl|rfl|rfl|rfl|rfl|rfl|rfl|rfl|rfl|rfl|rfl|rfl|rfl|rfl|rfl|rfl|rfl|rfl|rfl
    · exact chk0
    · exact chk1
    · exact chk2
    · exact chk3
    · exact chk4
    · exact chk5
    · exact chk6
    · exact chk7
    · exact chk8
    · exact chk9
    · exact chk10
    · exact chk11
    · exact chk12
    · exact chk13
    · exact chk14
    · exact chk15
    · exact chk16
    · exact chk17
    · exact chk18
    · exact chk19
    · exact chk20
    · exact chk21
    · exact chk22
    · exact chk23
    · exact chk24
    · exact chk25
    · exact chk26
    · exact chk27
    · exact chk28
    · exact chk29
    · exact chk30
    · exact chk31
  exact chk_at 11 q h4 n h2 h3
theorem pc_le (n:Nat):pc n≤16:=by
  have:∀ f m,Go.Lib.popAux f m≤f:=fun f=>by
    induction f with
    |zero=>intro m;exact Nat.le_refl _
    |succ f ih=>intro m;rw [Go.Lib.popAux];have:=ih (m / 2);omega
  exact this 16 n
end Go.Proofs.Ytoobofnpdiapgaa.Gr
namespace Go.Proofs.Ytoobofnpdiapgaa.Sp
set_option linter.unusedVariables false
set_option linter.unusedSimpArgs false
open Go.Proofs.Ytoobofnpdiapgaa.Gf
/-- v is a sum of some of the sets. -/
def InSpan:List Nat→Nat→Prop
  |[],v=>v=0
  |b::bs,v=>InSpan bs v∨InSpan bs (v ^^^ b)
theorem InSpan.zero:∀ bs,InSpan bs 0
  |[]=>rfl
  |_::bs=>.inl (InSpan.zero bs)
theorem InSpan.xor:∀ {bs:List Nat} {u v:Nat},InSpan bs u→InSpan bs v→InSpan bs (u ^^^ v)
  |[],u,v,hu,hv=>by
    have h1:u=0:=hu
    have h2:v=0:=hv
    show u ^^^ v=0
    rw [h1,h2];rfl
  |b::bs,u,v,hu,hv=>by
    rcases hu with hu|hu<;>rcases hv with hv|hv
    · exact .inl (hu.xor hv)
    · refine .inr ?_
      have:=hu.xor hv
      rwa [← Nat.xor_assoc] at this
    · refine .inr ?_
      have:=hu.xor hv
      rwa [Nat.xor_assoc,Nat.xor_comm b v,← Nat.xor_assoc] at this
    · refine .inl ?_
      have:=hu.xor hv
      rwa [xor4,Nat.xor_self,Nat.xor_zero] at this
theorem InSpan.mem:∀ {bs:List Nat} {b:Nat},b ∈ bs→InSpan bs b
  |c::bs,b,h=>by
    rcases List.mem_cons.1 h with rfl|h
    · exact .inr (by rw [Nat.xor_self];exact InSpan.zero bs)
    · exact .inl (InSpan.mem h)
theorem InSpan.cons_sub {c:Nat} {bs:List Nat} {v:Nat} (h:InSpan bs v):InSpan (c::bs) v:=.inl h
/-- A span is in each set of sums that holds its members. -/
theorem InSpan.sub {P:Nat→Prop} (h0:P 0) (hx:∀ u v,P u→P v→P (u ^^^ v)):∀ {bs:List Nat},(∀ b ∈ bs,P b)→∀ {v},InSpan bs v→P v
  |[],_,v,h=>by
    have:v=0:=h
    rw [this];exact h0
  |b::bs,hb,v,h=>by
    have hbs:∀ c ∈ bs,P c:=fun c hc=>hb c (List.mem_cons_of_mem _ hc)
    rcases h with h|h
    · exact InSpan.sub h0 hx hbs h
    · have:=hx _ _ (InSpan.sub h0 hx hbs h) (hb b (List.mem_cons_self ..))
      rwa [xor_cancel] at this
theorem InSpan.mono {ts bs:List Nat} (h:∀ a ∈ ts,InSpan bs a) {v:Nat} (hv:InSpan ts v):InSpan bs v:=
  InSpan.sub (P:=InSpan bs) (InSpan.zero bs) (fun _ _=>InSpan.xor) h hv
theorem InSpan.snoc {bs:List Nat} {b v:Nat}:InSpan (bs++[b]) v↔InSpan bs v∨InSpan bs (v ^^^ b):=by
  constructor
  · intro h
    have:∀ {v},InSpan (bs++[b]) v→InSpan (b::bs) v:=fun h=>InSpan.mono (fun a ha=>by
      rcases List.mem_append.1 ha with ha|ha
      · exact InSpan.mem (List.mem_cons_of_mem _ ha)
      · exact InSpan.mem (by simp at ha;subst ha;exact List.mem_cons_self ..)) h
    exact this h
  · intro h
    have:∀ {v},InSpan (b::bs) v→InSpan (bs++[b]) v:=fun h=>InSpan.mono (fun a ha=>by
      rcases List.mem_cons.1 ha with rfl|ha
      · exact InSpan.mem (by simp)
      · exact InSpan.mem (by simp [ha])) h
    exact this h
/-- No two have one top, none is empty. -/
def Tri:List Nat→Prop
  |[]=>True
  |b::bs=>b≠0∧(∀ c ∈ bs,bl c≠bl b)∧Tri bs
theorem Tri.top:∀ {bs:List Nat},Tri bs→∀ {v},InSpan bs v→v≠0→∃ b ∈ bs,bl b=bl v
  |[],_,v,h,hv=>absurd h hv
  |b::bs,⟨hb0,hbd,hbs⟩,v,h,hv=>by
    rcases h with h|h
    · obtain ⟨c,hc,e⟩:=hbs.top h hv
      exact ⟨c,List.mem_cons_of_mem _ hc,e⟩
    · by_cases e:v ^^^ b=0
      · exact ⟨b,List.mem_cons_self ..,by rw [xor_eq_zero.1 e]⟩
      · obtain ⟨c,hc,e2⟩:=hbs.top h e
        have hne:=hbd c hc
        rcases Nat.lt_or_ge (bl b) (bl c) with hlt|hge
        · refine ⟨c,List.mem_cons_of_mem _ hc,?_⟩
          have:bl ((v ^^^ b) ^^^ b)=bl (v ^^^ b):=bl_xor_ne (by omega)
          rw [xor_cancel] at this
          omega
        · refine ⟨b,List.mem_cons_self ..,?_⟩
          have:bl (b ^^^ (v ^^^ b))=bl b:=bl_xor_ne (by omega)
          rw [Nat.xor_comm v,xor_cancel_left] at this
          exact this.symm
theorem Tri.snoc:∀ {bs:List Nat} {b:Nat},Tri bs→b≠0→(∀ c ∈ bs,bl c≠bl b)→Tri (bs++[b])
  |[],b,_,h0,_=>⟨h0,by simp,trivial⟩
  |c::bs,b,⟨hc0,hcd,hbs⟩,h0,hd=>by
    refine ⟨hc0,fun a ha=>?_,hbs.snoc h0 (fun a ha=>hd a (List.mem_cons_of_mem _ ha))⟩
    rcases List.mem_append.1 ha with ha|ha
    · exact hcd a ha
    · simp at ha;subst ha
      exact fun e=>hd c (List.mem_cons_self ..) e.symm
/-- What presses make: the sum of the effects of the buttons below n that are in x. -/
def eff (e:Nat→Nat):Nat→Nat→Nat
  |0,_=>0
  |n+1,x=>eff e n x ^^^ (if x.testBit n=true then e n else 0)
theorem eff_zero (e:Nat→Nat):∀ n,eff e n 0=0
  |0=>rfl
  |n+1=>by rw [eff,eff_zero e n];simp
theorem eff_xor (e:Nat→Nat):∀ n x y,eff e n (x ^^^ y)=eff e n x ^^^ eff e n y
  |0,_,_=>by simp [eff]
  |n+1,x,y=>by
    simp only [eff]
    rw [eff_xor e n x y,xor4,Nat.testBit_xor]
    congr 1
    cases x.testBit n<;>cases y.testBit n<;>simp
theorem eff_bit (e:Nat→Nat) (i:Nat):∀ n,eff e n (2 ^ i)=if i< n then e i else 0
  |0=>by simp [eff]
  |n+1=>by
    simp only [eff]
    rw [eff_bit e i n,Nat.testBit_two_pow]
    by_cases h:i=n
    · subst h;simp
    · by_cases h2:i< n
      · simp [h,h2];omega
      · simp [h,h2];omega
/-- Only the buttons below n count. -/
theorem eff_congr (e:Nat→Nat):∀ n x y,(∀ i,i< n→x.testBit i=y.testBit i)→eff e n x=eff e n y
  |0,_,_,_=>rfl
  |n+1,x,y,h=>by
    simp only [eff]
    rw [eff_congr e n x y (fun i hi=>h i (by omega)),h n (by omega)]
theorem eff_fn (e e':Nat→Nat):∀ n x,(∀ i,i< n→e i=e' i)→eff e n x=eff e' n x
  |0,_,_=>rfl
  |n+1,x,h=>by
    simp only [eff]
    rw [eff_fn e e' n x (fun i hi=>h i (by omega)),h n (by omega)]
theorem eff_more (e:Nat→Nat) {n x:Nat} (h:x< 2 ^ n) (k:Nat):eff e (n+k) x=eff e n x:=by
  induction k with
  |zero=>rfl
  |succ k ih=>
    rw [← Nat.add_assoc]
    simp only [eff]
    rw [ih,Nat.testBit_lt_two_pow (Nat.lt_of_lt_of_le h (Nat.pow_le_pow_right (by omega) (by omega)))]
    simp
theorem eff_lt (e:Nat→Nat) {m:Nat}:∀ n x,(∀ i,i< n→e i< 2 ^ m)→eff e n x< 2 ^ m
  |0,_,_=>Nat.two_pow_pos m
  |n+1,x,h=>by
    simp only [eff]
    refine Nat.xor_lt_two_pow (eff_lt e n x (fun i hi=>h i (by omega))) ?_
    split
    · exact h n (by omega)
    · exact Nat.two_pow_pos m
/-- Sums of the effects of the first n buttons are what presses of these make. -/
theorem span_eff (e:Nat→Nat) (n:Nat) (v:Nat):InSpan ((List.range n).map e) v↔∃ x,x< 2 ^ n∧eff e n x=v:=by
  induction n generalizing v with
  |zero=>
    constructor
    · intro h;exact ⟨0,by simp,(show v=0 from h).symm⟩
    · rintro ⟨x,_,rfl⟩;rfl
  |succ n ih=>
    rw [List.range_succ,List.map_append,List.map_cons,List.map_nil,InSpan.snoc,ih,ih]
    constructor
    · rintro (⟨x,hx,rfl⟩|⟨x,hx,he⟩)
      · exact ⟨x,by rw [Nat.pow_succ];omega,eff_more e hx 1⟩
      · refine ⟨x ^^^ 2 ^ n,Nat.xor_lt_two_pow (by rw [Nat.pow_succ];omega) (by rw [Nat.pow_succ];have:=Nat.two_pow_pos n;omega),?_⟩
        rw [eff_xor,eff_more e hx 1,eff_bit,if_pos (by omega),he,xor_cancel]
    · rintro ⟨x,hx,rfl⟩
      simp only [eff]
      by_cases hb:x.testBit n=true
      · refine .inr ⟨x ^^^ 2 ^ n,?_,?_⟩
        · refine Nat.lt_pow_two_of_testBit _ fun i hi=>?_
          rw [Nat.testBit_xor,Nat.testBit_two_pow]
          by_cases e:n=i
          · subst e;simp [hb]
          · rw [Nat.testBit_lt_two_pow (Nat.lt_of_lt_of_le hx (Nat.pow_le_pow_right (by omega) (by omega)))];simp [e]
        · rw [if_pos hb,xor_cancel]
          exact eff_congr e n _ _ fun i hi=>by rw [Nat.testBit_xor,Nat.testBit_two_pow,decide_eq_false (by omega),Bool.xor_false]
      · refine .inl ⟨x,?_,?_⟩
        · refine Nat.lt_pow_two_of_testBit _ fun i hi=>?_
          by_cases e:n=i
          · subst e;simpa using hb
          · exact Nat.testBit_lt_two_pow (Nat.lt_of_lt_of_le hx (Nat.pow_le_pow_right (by omega) (by omega)))
        · rw [if_neg hb,Nat.xor_zero]
end Go.Proofs.Ytoobofnpdiapgaa.Sp
namespace Go.Proofs.Ytoobofnpdiapgaa.Pa
set_option linter.unusedVariables false
set_option linter.unusedSimpArgs false
open Go.Proofs.Ytoobofnpdiapgaa.Gf Go.Proofs.Ytoobofnpdiapgaa.Sp
/-- Has v the greatest element of b? -/
def tb (b v:Nat):Bool:=v.testBit (bl b - 1)
theorem tb_self {b:Nat} (h:b≠0):tb b b=true:=top_bit h
theorem tb_xor (b u v:Nat):tb b (u ^^^ v)=(tb b u ^^ tb b v):=Nat.testBit_xor ..
theorem tb_of_bl {b c v:Nat} (h:bl b=bl c):tb b v=tb c v:=by unfold tb;rw [h]
/-- The rows are taken off one behind the other. -/
def putN:List Nat→Nat→Nat
  |[],v=>v
  |r::rs,v=>putN rs (if tb r v=true then v ^^^ r else v)
theorem putN_span:∀ (S:List Nat) (v:Nat),InSpan S (v ^^^ putN S v)
  |[],v=>by show v ^^^ v=0;simp
  |r::rs,v=>by
    rw [putN]
    split
    · have h:=putN_span rs (v ^^^ r)
      refine .inr ?_
      rw [show (v ^^^ putN rs (v ^^^ r)) ^^^ r=(v ^^^ r) ^^^ putN rs (v ^^^ r) by rw [Nat.xor_assoc,Nat.xor_comm _ r,← Nat.xor_assoc]]
      exact h
    · exact .inl (putN_span rs v)
theorem putN_keep {t:Nat}:∀ (S:List Nat) (v:Nat),(∀ s ∈ S,s.testBit t=false)→v.testBit t=false→(putN S v).testBit t=false
  |[],v,_,h=>h
  |r::rs,v,hS,h=>by
    rw [putN]
    refine putN_keep rs _ (fun s hs=>hS s (List.mem_cons_of_mem _ hs)) ?_
    split
    · rw [Nat.testBit_xor,h,hS r (List.mem_cons_self ..)];rfl
    · exact h
/-- Later rows have no greatest element of an elder one. -/
def Tro:List Nat→Prop
  |[]=>True
  |r::rs=>r≠0∧(∀ s ∈ rs,tb r s=false)∧Tro rs
theorem Tro.ne:∀ {S:List Nat},Tro S→∀ r ∈ S,r≠0
  |_::_,h,r,hr=>by
    rcases List.mem_cons.1 hr with rfl|hr
    · exact h.1
    · exact h.2.2.ne r hr
theorem Tro.tri:∀ {S:List Nat},Tro S→Tri S
  |[],_=>trivial
  |r::rs,h=>⟨h.1,fun c hc e=>(by
      have h1:=h.2.1 c hc
      rw [tb_of_bl e.symm,tb_self (h.2.2.ne c hc)] at h1
      cases h1),h.2.2.tri⟩
theorem putN_bits:∀ {S:List Nat},Tro S→∀ (v:Nat),∀ r ∈ S,tb r (putN S v)=false
  |q::rs,h,v,r,hr=>by
    rw [putN]
    rcases List.mem_cons.1 hr with rfl|hr
    · refine putN_keep rs _ h.2.1 ?_
      split
      · rename_i c
        show tb r (v ^^^ r)=false
        rw [tb_xor,c,tb_self h.1];rfl
      · rename_i c
        simpa [tb] using c
    · exact putN_bits h.2.2 _ r hr
theorem xor_xor (a b:Nat):a ^^^ (a ^^^ b)=b:=xor_cancel_left a b
theorem putN_zero {S:List Nat} (h:Tro S) (v:Nat):putN S v=0↔InSpan S v:=by
  have hs:=putN_span S v
  constructor
  · intro e;rw [e,Nat.xor_zero] at hs;exact hs
  · intro hv
    have h2:=hv.xor hs
    rw [xor_xor] at h2
    by_cases e:putN S v=0
    · exact e
    · obtain ⟨b,hb,eb⟩:=h.tri.top h2 e
      have:=putN_bits h v b hb
      rw [tb_of_bl eb,tb_self e] at this
      cases this
theorem Tro.snoc:∀ {S:List Nat} {v:Nat},Tro S→v≠0→(∀ r ∈ S,tb r v=false)→Tro (S++[v])
  |[],v,_,h0,_=>⟨h0,by simp,trivial⟩
  |r::rs,v,h,h0,hv=>⟨h.1,fun s hs=>(by
      rcases List.mem_append.1 hs with hs|hs
      · exact h.2.1 s hs
      · simp at hs;subst hs;exact hv r (List.mem_cons_self ..)),h.2.2.snoc h0 (fun s hs=>hv s (List.mem_cons_of_mem _ hs))⟩
theorem putN_lt {n:Nat}:∀ (S:List Nat) (v:Nat),(∀ s ∈ S,s< 2 ^ n)→v< 2 ^ n→putN S v< 2 ^ n
  |[],v,_,h=>h
  |r::rs,v,hS,h=>by
    rw [putN]
    refine putN_lt rs _ (fun s hs=>hS s (List.mem_cons_of_mem _ hs)) ?_
    split
    · exact Nat.xor_lt_two_pow h (hS r (List.mem_cons_self ..))
    · exact h
/-- No set of a basis has the greatest element of another. -/
def Rb (B:List Nat):Prop:=(∀ b ∈ B,b≠0)∧B.Pairwise fun a b=>tb a b=false∧tb b a=false
theorem Rb.tro:∀ {B:List Nat},Rb B→Tro B
  |[],_=>trivial
  |b::B,h=>by
    have hp:=List.pairwise_cons.1 h.2
    exact ⟨h.1 b (List.mem_cons_self ..),fun s hs=>(hp.1 s hs).1,Rb.tro ⟨fun c hc=>h.1 c (List.mem_cons_of_mem _ hc),hp.2⟩⟩
theorem Rb.perm {B C:List Nat} (h:Rb B) (p:C.Perm B):Rb C:=⟨fun b hb=>h.1 b (p.mem_iff.1 hb),(p.pairwise_iff (fun {a b} h=>⟨h.2,h.1⟩)).2 h.2⟩
theorem InSpan.perm {B C:List Nat} (p:C.Perm B) (v:Nat):InSpan C v↔InSpan B v:=
  ⟨fun h=>InSpan.mono (fun a ha=>InSpan.mem (p.mem_iff.1 ha)) h,fun h=>InSpan.mono (fun a ha=>InSpan.mem (p.mem_iff.2 ha)) h⟩
/-- A set is put into a basis: what it is before the order is brought about. -/
def extL (B:List Nat) (s:Nat):List Nat:=(B.map fun b=>if tb s b=true then b ^^^ s else b)++[s]
theorem ext_bl {b s:Nat} (hb:b≠0) (hs:tb b s=false):bl (if tb s b=true then b ^^^ s else b)=bl b:=by
  split
  · rename_i c
    rcases Nat.lt_trichotomy (bl s) (bl b) with h|h|h
    · exact bl_xor_ne h
    · rw [tb_of_bl h.symm] at hs
      by_cases e:s=0
      · subst e;simp at c ⊢
      · rw [tb_self e] at hs;cases hs
    · have:tb s b=false:=above (by omega)
      rw [this] at c;cases c
  · rfl
theorem extL_rb {B:List Nat} {s:Nat} (h:Rb B) (h0:s≠0) (hs:∀ b ∈ B,tb b s=false):Rb (extL B s):=by
  have hne:∀ b ∈ B,(if tb s b=true then b ^^^ s else b)≠0:=fun b hb e=>by
    have:=ext_bl (h.1 b hb) (hs b hb)
    rw [e,bl_zero] at this
    exact h.1 b hb (bl_eq_zero.1 this.symm)
  have hlack:∀ b,tb s (if tb s b=true then b ^^^ s else b)=false:=fun b=>by
    split
    · rename_i c;rw [tb_xor,c,tb_self h0];rfl
    · rename_i c;simpa using c
  refine ⟨fun c hc=>?_,?_⟩
  · rcases List.mem_append.1 hc with hc|hc
    · obtain ⟨b,hb,rfl⟩:=List.mem_map.1 hc;exact hne b hb
    · simp at hc;subst hc;exact h0
  · refine List.pairwise_append.2 ⟨?_,by simp,?_⟩
    · rw [List.pairwise_map]
      refine h.2.imp_of_mem (fun {a b} ha hb hab=>?_)
      have key:∀ x y,x ∈ B→y ∈ B→tb x y=false→tb (if tb s x=true then x ^^^ s else x) (if tb s y=true then y ^^^ s else y)=false:=fun x y hx hy hxy=>by
        rw [tb_of_bl (ext_bl (h.1 x hx) (hs x hx))]
        split
        · rw [tb_xor,hxy,hs x hx];rfl
        · exact hxy
      exact ⟨key a b ha hb hab.1,key b a hb ha hab.2⟩
    · intro a ha c hc
      simp at hc;subst hc
      obtain ⟨b,hb,rfl⟩:=List.mem_map.1 ha
      exact ⟨by rw [tb_of_bl (ext_bl (h.1 b hb) (hs b hb))];exact hs b hb,hlack b⟩
theorem extL_span (B:List Nat) (s v:Nat):InSpan (extL B s) v↔InSpan (s::B) v:=by
  constructor
  · refine InSpan.mono (fun a ha=>?_)
    rcases List.mem_append.1 ha with ha|ha
    · obtain ⟨b,hb,rfl⟩:=List.mem_map.1 ha
      split
      · exact (InSpan.mem (List.mem_cons_of_mem _ hb)).xor (InSpan.mem (List.mem_cons_self ..))
      · exact InSpan.mem (List.mem_cons_of_mem _ hb)
    · simp at ha;subst ha;exact InSpan.mem (List.mem_cons_self ..)
  · refine InSpan.mono (fun a ha=>?_)
    have hsm:InSpan (extL B s) s:=InSpan.mem (List.mem_append.2 (.inr (by simp)))
    rcases List.mem_cons.1 ha with rfl|ha
    · exact hsm
    · have hm:InSpan (extL B s) (if tb s a=true then a ^^^ s else a):=InSpan.mem (List.mem_append.2 (.inl (List.mem_map.2 ⟨a,ha,rfl⟩)))
      split at hm
      · have:=hm.xor hsm
        rwa [xor_cancel] at this
      · exact hm
/-! ### The diagonal of a symmetric system -/
def xs (f:Nat→Bool):Nat→Bool
  |0=>false
  |n+1=>xs f n ^^ f n
theorem xs_congr {f g:Nat→Bool}:∀ n,(∀ i,i< n→f i=g i)→xs f n=xs g n
  |0,_=>rfl
  |n+1,h=>by rw [xs,xs,xs_congr n (fun i hi=>h i (by omega)),h n (by omega)]
theorem xs_false:∀ n,xs (fun _=>false) n=false
  |0=>rfl
  |n+1=>by rw [xs,xs_false n];rfl
theorem xs_xor (f g:Nat→Bool):∀ n,xs (fun i=>f i ^^ g i) n=(xs f n ^^ xs g n)
  |0=>rfl
  |n+1=>by
    rw [xs,xs,xs,xs_xor f g n]
    cases xs f n<;>cases xs g n<;>cases f n<;>cases g n<;>rfl
theorem xs_and (c:Bool) (f:Nat→Bool):∀ n,xs (fun i=>c && f i) n=(c && xs f n)
  |0=>by simp [xs]
  |n+1=>by rw [xs,xs,xs_and c f n];cases c<;>simp
/-- The double sum of a symmetric system is that of its diagonal. -/
theorem xs_diag (a:Nat→Nat→Bool):∀ n,(∀ i j,i< n→j< n→a i j=a j i)→xs (fun i=>xs (a i) n) n=xs (fun i=>a i i) n
  |0,_=>rfl
  |n+1,h=>by
    have ih:=xs_diag a n (fun i j hi hj=>h i j (by omega) (by omega))
    rw [xs,xs]
    have e1:xs (fun i=>xs (a i) (n+1)) n=(xs (fun i=>xs (a i) n) n ^^ xs (fun i=>a i n) n):=by rw [← xs_xor];rfl
    have e2:xs (fun i=>a i n) n=xs (a n) n:=xs_congr n (fun i hi=>h i n (by omega) (by omega))
    show (xs (fun i=>xs (a i) (n+1)) n ^^ (xs (a n) n ^^ a n n))=(xs (fun i=>a i i) n ^^ a n n)
    rw [e1,e2,ih]
    cases xs (fun i=>a i i) n<;>cases xs (a n) n<;>cases a n n<;>rfl
/-- What presses make, place by place. -/
theorem eff_bit_at (e:Nat→Nat) (x j:Nat):∀ n,(eff e n x).testBit j=xs (fun i=>x.testBit i && (e i).testBit j) n
  |0=>by simp [eff,xs]
  |n+1=>by
    rw [eff,xs,Nat.testBit_xor,eff_bit_at e x j n]
    congr 1
    cases x.testBit n<;>simp
/-- How a set meets another: evenly or oddly. -/
def dot (n:Nat) (u v:Nat):Bool:=xs (fun i=>u.testBit i && v.testBit i) n
theorem dot_xor (n u v w:Nat):dot n (u ^^^ v) w=(dot n u w ^^ dot n v w):=by
  unfold dot
  rw [← xs_xor]
  refine xs_congr n (fun i _=>?_)
  rw [Nat.testBit_xor]
  cases u.testBit i<;>cases v.testBit i<;>cases w.testBit i<;>rfl
theorem dot_comm (n u v:Nat):dot n u v=dot n v u:=xs_congr n (fun i _=>Bool.and_comm ..)
theorem dot_zero (n v:Nat):dot n 0 v=false:=by
  unfold dot
  rw [xs_congr (g:=fun _=>false) n (fun i _=>by simp),xs_false]
/-- A sum of rows of a symmetric system that is empty asks for nothing that the diagonal doesn't grant. -/
theorem gallai {n:Nat} {e:Nat→Nat} {W:Nat} (hsym:∀ i j,i< n→j< n→(e i).testBit j=(e j).testBit i) (hd:∀ i,i< n→W.testBit i=(e i).testBit i) {T:Nat} (hT:∀ j,j< n→(eff e n T).testBit j=false):dot n T W=false:=by
  have h1:=xs_diag (fun i j=>(T.testBit i && T.testBit j) && (e i).testBit j) n (fun i j hi hj=>by rw [hsym i j hi hj,Bool.and_comm (T.testBit i)])
  have h2:dot n T W=xs (fun i=>(T.testBit i && T.testBit i) && (e i).testBit i) n:=xs_congr n (fun i hi=>by rw [hd i hi,Bool.and_self])
  rw [h2,← h1]
  rw [xs_congr (g:=fun _=>false) n (fun i hi=>?_),xs_false]
  have h3:=hT i hi
  rw [eff_bit_at] at h3
  have h4:xs (fun j=>(T.testBit i && T.testBit j) && (e i).testBit j) n=(T.testBit i && xs (fun j=>T.testBit j && (e j).testBit i) n):=by
    rw [← xs_and]
    exact xs_congr n (fun j hj=>by rw [hsym i j hi hj,Bool.and_assoc])
  rw [h4,h3,Bool.and_false]
end Go.Proofs.Ytoobofnpdiapgaa.Pa
namespace Go.Proofs.Ytoobofnpdiapgaa.St
open Go.RowKit Go.Proofs.Ytoobofnpdiapgaa.P Go.Proofs.Ytoobofnpdiapgaa.Bt Go.Proofs.Ytoobofnpdiapgaa.Gf Go.Proofs.Ytoobofnpdiapgaa.Sp Go.Proofs.Ytoobofnpdiapgaa.Pa Go.Proofs.YtoobofnpdiapgaaW.PrintWords Go.Proofs.YtoobofnpdiapgaaW.PrintLast Go.Proofs.YtoobofnpdiapgaaW.PrintMore
set_option linter.unusedVariables false
set_option linter.unusedSimpArgs false
def ci (l:List Nat):List Int:=l.map fun (n:Nat)=>(n:Int)
theorem ci_length (l:List Nat):(ci l).length=l.length:=by simp [ci]
theorem bl16 {n:Nat} (h:n< 65536):bl n≤16:=bl_le_iff.2 h
theorem bl_ge1 {n:Nat} (h:n≠0):1≤bl n:=by
  rcases Nat.eq_zero_or_pos (bl n) with e|e
  · exact absurd (bl_eq_zero.1 e) h
  · exact e
theorem soTop_l0:∀ (d n k:Nat) (c:Int),bl n=d→d≤62→-1≤c→c+d≤100→d< k→spec_soTop.l0 k (n:Int) c=some (c+(d:Int)):=by
  intro d
  induction d with
  |zero=>
    intro n k c hn _ _ _ hk
    obtain ⟨k,rfl⟩:∃ m,k=m+1:=⟨k - 1,by omega⟩
    have:n=0:=bl_eq_zero.1 hn
    subst this
    rw [spec_soTop.l0,if_neg (by omega)]
    simp
  |succ d ih=>
    intro n k c hn hd h1 h2 hk
    obtain ⟨k,rfl⟩:∃ m,k=m+1:=⟨k - 1,by omega⟩
    have h0:n≠0:=fun e=>by rw [e,bl_zero] at hn;omega
    have hlt:n< 2 ^ 62:=bl_le_iff.1 (by omega)
    rw [spec_soTop.l0,if_pos (by omega),tdiv_two,wrap_nat (by omega),wrap_id (by omega) (by omega)]
    have hb:=bl_half h0
    rw [ih (n / 2) k (c+1) (by omega) (by omega) (by omega) (by omega) (by omega)]
    congr 1;omega
theorem soTop_at {n:Nat} (h:n< 65536) (h0:n≠0) {k:Nat} (hk:100< k):spec_soTop.f k (n:Int)=some ((bl n - 1:Nat):Int):=by
  have:=bl16 h;have:=bl_ge1 h0
  unfold spec_soTop.f
  rw [soTop_l0 (bl n) n k (-1) rfl (by omega) (by omega) (by omega) (by omega)]
  congr 1;omega
theorem grIn_at {s:Nat} (hs:s< 65536) (i:Nat):spec_grIn.f (s:Int) (i:Int)=some (s.testBit i):=by
  unfold spec_grIn.f
  rw [if_pos (by omega),grIn_val (by omega)]
theorem has_at {s:Nat} (hs:s< 65536) (i:Nat):impl_has.f (s:Int) (i:Int)=some (s.testBit i):=by
  unfold impl_has.f
  rw [if_pos (by omega),has_val (by omega)]
theorem top_at {n:Nat} (h:n< 65536) (h0:n≠0):impl_top.f (n:Int)=some ((bl n - 1:Nat):Int):=by
  have h1:=bl16 h;have:=bl_ge1 h0
  unfold impl_top.f bits_Len.f bits_Len64.f
  have e:IntKind.u64.wrap (n:Int)=n:=by rw [IntKind.wrap_u64];omega
  rw [e,if_pos (by omega),Int.toNat_natCast,bitLen_bl n (by omega)]
  simp only [Option.bind_some]
  unfold wrap64
  congr 1;omega
theorem tpI_at {n:Nat} (h:n< 65536) (h0:n≠0):tpI (n:Int)=((bl n - 1:Nat):Int):=by
  have:=bl_ge1 h0
  unfold tpI
  rw [Int.toNat_natCast,bitLen_bl n (by omega)];omega
theorem hasI_at {s b:Nat} (hs:s< 65536) (hb:b< 65536) (h0:b≠0):hasI (s:Int) (tpI (b:Int))=tb b s:=by
  rw [tpI_at hb h0];unfold hasI;rw [has_val (by omega)];rfl
theorem stepI_at {s b:Nat} (hs:s< 65536) (hb:b< 65536) (h0:b≠0):stepI (s:Int) (b:Int)=((if tb b s=true then s ^^^ b else s:Nat):Int):=by
  unfold stepI;rw [hasI_at hs hb h0]
  split
  · rw [bits_xor (by omega) (by omega)]
  · rfl
/-- Small and not empty. -/
def Sm (B:List Nat):Prop:=∀ b ∈ B,b≠0∧b< 65536
theorem xor16 {a b:Nat} (ha:a< 65536) (hb:b< 65536):a ^^^ b< 65536:=Nat.xor_lt_two_pow (n:=16) ha hb
theorem good_at {b:Nat} (h0:b≠0) (h:b< 65536):good (b:Int)=true:=by
  unfold good
  rw [decide_eq_true (by omega),decide_eq_true (by omega)];rfl
theorem all_good {B:List Nat} (h:Sm B):(ci B).all good=true:=by
  rw [List.all_eq_true]
  intro x hx
  obtain ⟨b,hb,rfl⟩:=List.mem_map.1 hx
  exact good_at (h b hb).1 (h b hb).2
theorem putN_snoc (S:List Nat) (b:Nat):∀ v,putN (S++[b]) v=if tb b (putN S v)=true then putN S v ^^^ b else putN S v:=by
  induction S with
  |nil=>intro v;rfl
  |cons r S ih=>intro v;rw [List.cons_append,putN,ih];rfl
theorem putN16 {S:List Nat} (h:Sm S) {v:Nat} (hv:v< 65536):putN S v< 65536:=putN_lt (n:=16) S v (fun s hs=>(h s hs).2) hv
theorem Sm.rev {B:List Nat} (h:Sm B):Sm B.reverse:=fun b hb=>h b (List.mem_reverse.1 hb)
theorem foldr_at:∀ {B:List Nat},Sm B→∀ {s:Nat},s< 65536→(ci B).foldr (fun b s=>stepI s b) (s:Int)=((putN B.reverse s:Nat):Int)
  |[],_,s,_=>rfl
  |b::B,h,s,hs=>by
    have hB:Sm B:=fun c hc=>h c (List.mem_cons_of_mem _ hc)
    have hb:=h b (List.mem_cons_self ..)
    show stepI ((ci B).foldr (fun b s=>stepI s b) (s:Int)) (b:Int)=_
    rw [foldr_at hB hs,stepI_at (putN16 hB.rev hs) hb.2 hb.1,List.reverse_cons,putN_snoc]
theorem reduced_at {B:List Nat} (h:Sm B) (hl:B.length≤1000) {s:Nat} (hs:s< 65536):impl_reduced.f (ci B) (s:Int)=some ((putN B.reverse s:Nat):Int):=by
  unfold impl_reduced.f
  rw [if_pos ⟨all_good h,by rw [ci_length];omega⟩,foldr_at h hs]
theorem rd_ci (B:List Nat) (i:Nat) (h:i< B.length):rd (ci B) (i:Int)=(B[i]:Int):=by
  simp [rd,ci,h]
theorem step1' {i:Nat} (h:i≤100000):wrap64 ((i:Int)+1)=((i+1:Nat):Int):=by rw [wrap_id (by omega) (by omega)];omega
theorem ext_l0 {B:List Nat} {s:Nat} (hB:Sm B) (hl:B.length≤1000) (h0:s≠0) (hs:s< 65536):∀ (d i k:Nat),B.length - i=d→i≤B.length→d< k→
    impl_extended.l0 k (s:Int) (ci ((B.take i).map fun b=>if tb s b=true then b ^^^ s else b)) (ci B) (B.length:Int) (i:Int)=(pseudo_sortTop.f (ci (extL B s))).bind fun t=>some t:=by
  intro d
  induction d with
  |zero=>
    intro i k hd hi hk
    obtain ⟨k,rfl⟩:∃ m,k=m+1:=⟨k - 1,by omega⟩
    have:i=B.length:=by omega
    subst this
    rw [impl_extended.l0,if_neg (by omega),if_pos (by rw [ci_length,List.length_map,List.length_take];omega),List.take_length]
    simp [ci,extL]
  |succ d ih=>
    intro i k hd hi hk
    obtain ⟨k,rfl⟩:∃ m,k=m+1:=⟨k - 1,by omega⟩
    have hlt:i< B.length:=by omega
    have hb:=hB B[i] (List.getElem_mem hlt)
    have hrec:=ih (i+1) k (by omega) (by omega) (by omega)
    rw [List.take_succ_eq_append_getElem hlt,List.map_append] at hrec
    simp only [List.map_cons,List.map_nil] at hrec
    rw [impl_extended.l0,if_pos (by omega),if_pos (by omega),if_pos (by rw [ci_length];omega),top_at hs h0,rd_ci B i hlt]
    simp only [Option.bind_some]
    rw [has_at hb.2]
    simp only [Option.bind_some]
    have hlen:(ci (List.map (fun b=>if tb s b=true then b ^^^ s else b) (List.take i B))).length< 17592186044416:=by rw [ci_length,List.length_map,List.length_take];omega
    show (if tb s B[i]=true then _ else _)=_
    by_cases c:tb s B[i]=true
    · rw [if_pos c,if_pos hlen,bits_xor (by omega) (by omega),step1' (by omega)]
      rw [if_pos c] at hrec
      simpa [ci] using hrec
    · rw [if_neg c,if_pos hlen,step1' (by omega)]
      rw [if_neg c] at hrec
      simpa [ci] using hrec
theorem nodup_tops {B:List Nat} (h:Rb B) (hs:Sm B):((ci B).map tpI).Nodup:=by
  rw [ci,List.map_map,List.nodup_iff_pairwise_ne,List.pairwise_map]
  refine h.2.imp_of_mem (fun {a b} ha hb hab e=>?_)
  have ha':=hs a ha;have hb':=hs b hb
  simp only [Function.comp] at e
  rw [tpI_at ha'.2 ha'.1,tpI_at hb'.2 hb'.1] at e
  have e2:bl a=bl b:=by have:=bl_ge1 ha'.1;have:=bl_ge1 hb'.1;omega
  have:=hab.1
  rw [tb_of_bl e2,tb_self hb'.1] at this
  cases this
theorem ci_toNat {R:List Int} {L:List Nat} (p:R.Perm (ci L)):∃ B:List Nat,R=ci B∧B.Perm L:=by
  refine ⟨R.map Int.toNat,?_,?_⟩
  · unfold ci
    rw [List.map_map]
    have:∀ x ∈ R,((fun (n:Nat)=>(n:Int)) ∘ Int.toNat) x=x:=fun x hx=>by
      obtain ⟨b,_,rfl⟩:=List.mem_map.1 (p.mem_iff.1 hx)
      simp
    rw [List.map_congr_left (g:=id) this,List.map_id]
  · have:=p.map Int.toNat
    unfold ci at this
    rw [List.map_map] at this
    rw [show (Int.toNat ∘ fun (n:Nat)=>(n:Int))=id from funext fun n=>by simp,List.map_id] at this
    exact this
/-- A set is put into a basis. -/
theorem extended_at {B:List Nat} (hR:Rb B) (hB:Sm B) (hl:B.length≤900) {s:Nat} (hs:s< 65536) {k:Nat} (hk:950< k):
    ∃ C:List Nat,impl_extended.f k (ci B) (s:Int)=some (ci C)∧Rb C∧Sm C∧(∀ v,InSpan C v↔InSpan (s::B) v)∧(InSpan B s→C=B)∧(¬ InSpan B s→C.length=B.length+1):=by
  have hT:Tro B.reverse:=(hR.perm (List.reverse_perm B)).tro
  have hz:=putN_zero hT s
  have hsp:=putN_span B.reverse s
  have hbits:=putN_bits hT s
  have h16:=putN16 hB.rev hs
  unfold impl_extended.f
  rw [reduced_at hB (by omega) hs]
  simp only [Option.bind_some]
  generalize hv:putN B.reverse s=v at hz hsp hbits h16
  have hspB:InSpan B (s ^^^ v):=(InSpan.perm (List.reverse_perm B) _).1 hsp
  have hzB:v=0↔InSpan B s:=hz.trans (InSpan.perm (List.reverse_perm B) s)
  by_cases c:v=0
  · rw [c,if_pos (by rfl)]
    have hin:=hzB.1 c
    exact ⟨B,rfl,hR,hB,fun w=>⟨fun h=>.inl h,fun h=>InSpan.mono (fun a ha=>by
      rcases List.mem_cons.1 ha with rfl|ha
      · exact hin
      · exact InSpan.mem ha) h⟩,fun _=>rfl,fun h=>absurd hin h⟩
  · rw [if_neg (by omega)]
    have hlack:∀ b ∈ B,tb b v=false:=fun b hb=>hbits b (List.mem_reverse.2 hb)
    have hE:Rb (extL B v):=extL_rb hR c hlack
    have hES:Sm (extL B v):=fun b hb=>⟨hE.1 b hb,by
      rcases List.mem_append.1 hb with hb|hb
      · obtain ⟨a,ha,rfl⟩:=List.mem_map.1 hb
        split
        · exact xor16 (hB a ha).2 h16
        · exact (hB a ha).2
      · simp at hb;subst hb;exact h16⟩
    have h1:=ext_l0 hB (by omega) c h16 B.length 0 k (by omega) (by omega) (by omega)
    have hlenE:(extL B v).length=B.length+1:=by simp [extL]
    rw [ci_length]
    rw [show impl_extended.l0 k (v:Int) [] (ci B) (B.length:Int) 0=_ from h1]
    unfold pseudo_sortTop.f
    rw [if_pos ⟨all_good hES,nodup_tops hE hES,by rw [ci_length,hlenE];omega⟩]
    obtain ⟨C,e,p⟩:=ci_toNat (List.mergeSort_perm (ci (extL B v)) (fun x y=>decide (tpI x≤tpI y)))
    rw [e]
    have hsv:∀ w,InSpan (v::B) w↔InSpan (s::B) w:=by
      have key:∀ a b,InSpan B (a ^^^ b)→∀ w,InSpan (a::B) w→InSpan (b::B) w:=fun a b hab w=>by
        refine InSpan.mono (fun x hx=>?_)
        rcases List.mem_cons.1 hx with rfl|hx
        · have:=(InSpan.cons_sub (c:=b) hab).xor (InSpan.mem (List.mem_cons_self (a:=b) (l:=B)))
          rwa [xor_cancel] at this
        · exact InSpan.mem (List.mem_cons_of_mem _ hx)
      exact fun w=>⟨key v s (by rw [Nat.xor_comm];exact hspB) w,key s v hspB w⟩
    refine ⟨C,rfl,hE.perm p,fun b hb=>hES b (p.mem_iff.1 hb),fun w=>?_,fun h=>absurd (hzB.2 h) c,fun _=>by rw [p.length_eq,hlenE]⟩
    rw [InSpan.perm p,extL_span,hsv]
end Go.Proofs.Ytoobofnpdiapgaa.St
namespace Go.Proofs.Ytoobofnpdiapgaa.Sv
open Go.RowKit Go.Proofs.Ytoobofnpdiapgaa.P Go.Proofs.Ytoobofnpdiapgaa.Bt Go.Proofs.Ytoobofnpdiapgaa.Gf Go.Proofs.Ytoobofnpdiapgaa.Sp Go.Proofs.Ytoobofnpdiapgaa.Pa Go.Proofs.Ytoobofnpdiapgaa.St Go.Proofs.YtoobofnpdiapgaaW.PrintWords Go.Proofs.YtoobofnpdiapgaaW.PrintLast Go.Proofs.YtoobofnpdiapgaaW.PrintMore
set_option linter.unusedVariables false
set_option linter.unusedSimpArgs false
/-- Two lists with steps that have the same sums are of one length. -/
theorem Tri.nodup:∀ {B:List Nat},Tri B→(B.map bl).Nodup
  |[],_=>List.nodup_nil
  |b::B,h=>by
    rw [List.map_cons,List.nodup_cons]
    refine ⟨fun hm=>?_,Tri.nodup h.2.2⟩
    obtain ⟨c,hc,e⟩:=List.mem_map.1 hm
    exact h.2.1 c hc e
theorem Tri.ne0:∀ {B:List Nat},Tri B→∀ b ∈ B,b≠0
  |_::_,h,b,hb=>by
    rcases List.mem_cons.1 hb with rfl|hb
    · exact h.1
    · exact Tri.ne0 h.2.2 b hb
theorem tri_len {B C:List Nat} (hB:Tri B) (hC:Tri C) (h:∀ v,InSpan B v↔InSpan C v):B.length=C.length:=by
  have p:(B.map bl).Perm (C.map bl):=by
    rw [List.perm_ext_iff_of_nodup (Tri.nodup hB) (Tri.nodup hC)]
    intro t
    constructor
    · intro ht
      obtain ⟨b,hb,rfl⟩:=List.mem_map.1 ht
      obtain ⟨c,hc,e⟩:=hC.top ((h b).1 (InSpan.mem hb)) (Tri.ne0 hB b hb)
      exact List.mem_map.2 ⟨c,hc,e⟩
    · intro ht
      obtain ⟨b,hb,rfl⟩:=List.mem_map.1 ht
      obtain ⟨c,hc,e⟩:=hB.top ((h b).2 (InSpan.mem hb)) (Tri.ne0 hC b hb)
      exact List.mem_map.2 ⟨c,hc,e⟩
  have:=p.length_eq
  simpa using this
theorem bl_eq_of_tp {a b:Nat} (ha:a≠0) (ha2:a< 65536) (hb:b≠0) (hb2:b< 65536):(tpI (a:Int)==tpI (b:Int))=decide (bl a=bl b):=by
  rw [tpI_at ha2 ha,tpI_at hb2 hb]
  have:=bl_ge1 ha;have:=bl_ge1 hb
  by_cases e:bl a=bl b
  · rw [e];simp
  · have:((bl a - 1:Nat):Int)≠((bl b - 1:Nat):Int):=by omega
    rw [decide_eq_false e]
    simpa using this
/-- Pairs, as the machine has them. -/
def cp (P:List (Nat × Nat)):List (Int × Int):=P.map fun (q:Nat × Nat)=>((q.1:Int),(q.2:Int))
theorem idxQ_cp (f:Int × Int→Bool):∀ (P:List (Int × Int)) (i:Nat),(idxQ f P i< 0∧∀ q ∈ P,f q=false)∨∃ j,j< P.length∧idxQ f P i=((j+i:Nat):Int)∧f (P.getD j (0,0))=true
  |[],i=>.inl ⟨by simp [idxQ],by simp⟩
  |q::P,i=>by
    rw [idxQ]
    by_cases c:f q=true
    · rw [if_pos c];exact .inr ⟨0,by simp,by simp,by simpa using c⟩
    · rw [if_neg c]
      rcases idxQ_cp f P (i+1) with ⟨h1,h2⟩|⟨j,h1,h2,h3⟩
      · refine .inl ⟨h1,fun x hx=>?_⟩
        rcases List.mem_cons.1 hx with rfl|hx
        · simpa using c
        · exact h2 x hx
      · exact .inr ⟨j+1,by simp;omega,by rw [h2];congr 1;omega,by simpa using h3⟩
/-- Pairs of effects and presses. -/
def Pok (m:Nat) (P:List (Nat × Nat)):Prop:=∀ q ∈ P,q.1≠0∧q.1< 65536∧q.2< 2 ^ m
theorem reach_at {m:Nat} (hm:m≤16) {P:List (Nat × Nat)} (hP:Pok m P):∀ (d l p k:Nat),bl l≤d→l< 65536→p< 2 ^ m→d< k→
    ∃ l' p':Nat,reachL (cp P) k (l:Int) (p:Int)=some ((l':Int),(p':Int))∧l'< 65536∧p'< 2 ^ m∧(l'≠0→∀ q ∈ P,bl q.1≠bl l')∧InSpan (P.map (·.1)) (l ^^^ l')∧
      ∀ ef:Nat→Nat,(∀ u v,ef (u ^^^ v)=ef u ^^^ ef v)→(∀ q ∈ P,ef q.2=q.1)→ef p' ^^^ l'=ef p ^^^ l:=by
  have h16:2 ^ m≤65536:=Nat.le_trans (Nat.pow_le_pow_right (by omega) hm) (by decide)
  intro d
  induction d with
  |zero=>
    intro l p k hd hl hp hk
    obtain ⟨k,rfl⟩:∃ z,k=z+1:=⟨k - 1,by omega⟩
    obtain rfl:l=0:=bl_eq_zero.1 (by omega)
    refine ⟨0,p,?_,by omega,hp,fun h=>absurd rfl h,by simpa using InSpan.zero _,fun ef _ _=>rfl⟩
    rw [reachL,if_pos (by rfl)]
  |succ d ih=>
    intro l p k hd hl hp hk
    obtain ⟨k,rfl⟩:∃ z,k=z+1:=⟨k - 1,by omega⟩
    by_cases h0:l=0
    · subst h0
      refine ⟨0,p,?_,by omega,hp,fun h=>absurd rfl h,by simpa using InSpan.zero _,fun ef _ _=>rfl⟩
      rw [reachL,if_pos (by rfl)]
    · have hgood:good (l:Int)=true∧∀ x ∈ cp P,good x.1=true:=⟨good_at h0 hl,fun x hx=>by
        obtain ⟨q,hq,rfl⟩:=List.mem_map.1 hx
        exact good_at (hP q hq).1 (hP q hq).2.1⟩
      have htp:∀ q ∈ P,(tpI (q.1:Int)==tpI (l:Int))=decide (bl q.1=bl l):=fun q hq=>bl_eq_of_tp (hP q hq).1 (hP q hq).2.1 h0 hl
      rw [reachL,if_neg (by omega),if_pos hgood]
      rcases idxQ_cp (fun x=>tpI x.1==tpI (l:Int)) (cp P) 0 with ⟨h1,h2⟩|⟨j,h1,h2,h3⟩
      · rw [if_pos h1]
        refine ⟨l,p,rfl,hl,hp,fun _ q hq e=>?_,by simpa using InSpan.zero _,fun ef _ _=>rfl⟩
        have:=h2 ((q.1:Int),(q.2:Int)) (List.mem_map.2 ⟨q,hq,rfl⟩)
        simp only at this
        rw [htp q hq,decide_eq_true e] at this
        cases this
      · have hjl:j< P.length:=by simpa [cp] using h1
        have hg:(cp P).getD j (0,0)=((P[j].1:Int),(P[j].2:Int)):=by simp [cp,hjl]
        have hq:=List.getElem_mem hjl
        have hPj:=hP _ hq
        rw [hg] at h3
        simp only at h3
        rw [htp _ hq,decide_eq_true_iff] at h3
        rw [if_neg (by omega),h2,Nat.add_zero,Int.toNat_natCast,hg]
        simp only
        rw [bits_xor (by omega) (by omega),bits_xor (by omega) (by omega)]
        have hlt:bl (l ^^^ P[j].1)< bl l:=bl_xor_lt h0 h3.symm
        obtain ⟨l',p',e1,e2,e3,e4,e5,e6⟩:=ih (l ^^^ P[j].1) (p ^^^ P[j].2) k (by omega) (xor16 hl hPj.2.1) (Nat.xor_lt_two_pow hp hPj.2.2) (by omega)
        refine ⟨l',p',e1,e2,e3,e4,?_,fun ef hx he=>?_⟩
        · have hm1:InSpan (P.map (·.1)) P[j].1:=InSpan.mem (List.mem_map.2 ⟨_,hq,rfl⟩)
          have:=e5.xor hm1
          rwa [show ((l ^^^ P[j].1) ^^^ l') ^^^ P[j].1=l ^^^ l' by rw [Nat.xor_assoc,Nat.xor_assoc,← Nat.xor_assoc P[j].1,Nat.xor_comm P[j].1 l',Nat.xor_assoc l',Nat.xor_self,Nat.xor_zero]] at this
        · rw [e6 ef hx he,hx,he _ hq]
          rw [Nat.xor_assoc,Nat.xor_comm P[j].1,Nat.xor_assoc,Nat.xor_self,Nat.xor_zero]
/-- What a solver holds behind the effects of the first i buttons. -/
structure SI (L:List Nat) (i:Nat) (P:List (Nat × Nat)) (Q I:List Nat):Prop where
  pok:Pok i P
  pe:∀ q ∈ P,eff (fun j=>L.getD j 0) L.length q.2=q.1
  tri:Tri (P.map (·.1))
  span:∀ v,InSpan (P.map (·.1)) v↔InSpan (L.take i) v
  qr:Rb Q
  qs:Sm Q
  qe:∀ v,InSpan Q v→v< 2 ^ i∧eff (fun j=>L.getD j 0) L.length v=0
  ker:∀ v,v< 2 ^ i→eff (fun j=>L.getD j 0) L.length v=0→InSpan Q v
  cnt:P.length+Q.length=i
  ir:Rb I
  is:Sm I
  il:I.length≤i
theorem Tri.snoc' {P:List (Nat × Nat)} {a b:Nat} (h:Tri (P.map (·.1))) (h0:a≠0) (hd:∀ q ∈ P,bl q.1≠bl a):Tri ((P++[(a,b)]).map (·.1)):=by
  rw [List.map_append]
  exact h.snoc h0 (fun c hc=>by
    obtain ⟨q,hq,rfl⟩:=List.mem_map.1 hc
    exact hd q hq)
theorem eff_take (L:List Nat) (x:Nat):∀ m,m≤L.length→InSpan (L.take m) (eff (fun j=>L.getD j 0) m x)
  |0,_=>InSpan.zero _
  |m+1,h=>by
    have ih:=eff_take L x m (by omega)
    rw [eff,List.take_succ_eq_append_getElem (show m< L.length by omega)]
    split
    · rw [InSpan.snoc]
      refine .inr ?_
      rw [show L.getD m 0=L[m] by simp [show m< L.length by omega],xor_cancel]
      exact ih
    · rw [InSpan.snoc,Nat.xor_zero];exact .inl ih
theorem eff_small (L:List Nat) {x m:Nat} (hm:m≤L.length) (hx:x< 2 ^ m):InSpan (L.take m) (eff (fun j=>L.getD j 0) L.length x):=by
  have h:=eff_more (fun j=>L.getD j 0) hx (L.length - m)
  rw [show m+(L.length - m)=L.length by omega] at h
  rw [h];exact eff_take L x m hm
theorem tri_no {P:List (Nat × Nat)} {l:Nat} (ht:Tri (P.map (·.1))) (hd:l≠0→∀ q ∈ P,bl q.1≠bl l) (h:InSpan (P.map (·.1)) l):l=0:=by
  by_cases c:l=0
  · exact c
  · obtain ⟨b,hb,e⟩:=ht.top h c
    obtain ⟨q,hq,rfl⟩:=List.mem_map.1 hb
    exact absurd e (hd c q hq)
theorem low_bit {x i:Nat} (h:x< 2 ^ (i+1)) (hb:x.testBit i=true):x ^^^ 2 ^ i< 2 ^ i:=by
  apply Nat.lt_pow_two_of_testBit
  intro j hj
  rw [Nat.testBit_xor,Nat.testBit_two_pow]
  rcases Nat.eq_or_lt_of_le hj with rfl|hj
  · rw [hb];simp
  · rw [Nat.testBit_lt_two_pow (Nat.lt_of_lt_of_le h (Nat.pow_le_pow_right (by omega) hj)),decide_eq_false (by omega)];rfl
theorem no_bit {x i:Nat} (h:x< 2 ^ (i+1)) (hb:¬ x.testBit i=true):x< 2 ^ i:=by
  apply Nat.lt_pow_two_of_testBit
  intro j hj
  rcases Nat.eq_or_lt_of_le hj with rfl|hj
  · simpa using hb
  · exact Nat.testBit_lt_two_pow (Nat.lt_of_lt_of_le h (Nat.pow_le_pow_right (by omega) hj))
theorem eff_two (e:Nat→Nat) {n i:Nat} (h:i< n):eff e n (2 ^ i)=e i:=by rw [eff_bit,if_pos h]
theorem solF_at {L:List Nat} (hL:∀ x ∈ L,x< 65536) (hn:L.length≤16) {k:Nat} (hk:950< k):∀ (d i:Nat) (P:List (Nat × Nat)) (Q I:List Nat),i+d=L.length→SI L i P Q I→
    ∃ P' Q' I',solF k (ci (L.drop i)) i (cp P) (ci Q) (ci I)=some (cp P',ci Q',ci I')∧SI L L.length P' Q' I':=by
  intro d
  induction d with
  |zero=>
    intro i P Q I hi h
    have:i=L.length:=by omega
    subst this
    refine ⟨P,Q,I,?_,h⟩
    rw [List.drop_length];rfl
  |succ d ih=>
    intro i P Q I hi h
    have hlt:i< L.length:=by omega
    have hx:=hL L[i] (List.getElem_mem hlt)
    have h16:2 ^ (i+1)≤65536:=Nat.le_trans (Nat.pow_le_pow_right (by omega) (show i+1≤16 by omega)) (by decide)
    have hpow:2 ^ i< 2 ^ (i+1):=Nat.pow_lt_pow_right (by omega) (by omega)
    have hcnt:=h.cnt
    have hil:=h.il
    have hgi:L.getD i 0=L[i]:=by simp [hlt]
    obtain ⟨I2,x1,x2,x3,x4,x5,x6⟩:=extended_at h.ir h.is (by omega) hx (k:=k) hk
    have hI2:I2.length≤i+1:=by
      by_cases c:InSpan I L[i]
      · rw [x5 c];omega
      · rw [x6 c];omega
    obtain ⟨l',p',r1,r2,r3,r4,r5,r6⟩:=reach_at (m:=i) (by omega) h.pok 16 L[i] 0 k (bl16 hx) hx (Nat.two_pow_pos i) (by omega)
    have hef:=r6 (eff (fun j=>L.getD j 0) L.length) (eff_xor _ _) h.pe
    rw [eff_zero,Nat.zero_xor] at hef
    have hpr:p' ^^^ 2 ^ i< 2 ^ (i+1):=Nat.xor_lt_two_pow (by omega) hpow
    have hepr:eff (fun j=>L.getD j 0) L.length (p' ^^^ 2 ^ i)=l':=by
      rw [eff_xor,eff_two _ hlt,hgi,← hef,Nat.xor_comm _ l',← Nat.xor_assoc,Nat.xor_comm _ l',Nat.xor_assoc,Nat.xor_self,Nat.xor_zero]
    have hsh:shl .i64 1 (i:Int)=((2 ^ i:Nat):Int):=by
      have:=shl_nat (a:=1) (n:=i) (by omega) (by rw [Nat.one_mul];omega)
      rw [Nat.shiftLeft_eq,Nat.one_mul] at this
      exact this
    have htake:L.take (i+1)=L.take i++[L[i]]:=List.take_succ_eq_append_getElem hlt
    have hcons:ci (L.drop i)=(L[i]:Int)::ci (L.drop (i+1)):=by rw [List.drop_eq_getElem_cons hlt];rfl
    have hspanx:∀ v,InSpan (P.map (·.1)) v→InSpan (L.take (i+1)) v:=fun v hv=>by
      rw [htake,InSpan.snoc];exact .inl ((h.span v).1 hv)
    rw [hcons,solF,x1]
    simp only [Option.bind_some]
    rw [show ((0:Nat):Int)=0 from rfl] at r1
    rw [r1]
    simp only [Option.bind_some]
    rw [hsh,bits_xor (by omega) (by omega)]
    by_cases c:l'=0
    · subst c
      rw [if_pos (by rfl)]
      rw [Nat.xor_zero] at r5
      have hbit:(p' ^^^ 2 ^ i).testBit i=true:=by
        rw [Nat.testBit_xor,Nat.testBit_lt_two_pow r3,Nat.testBit_two_pow_self];rfl
      have hnin:¬ InSpan Q (p' ^^^ 2 ^ i):=fun hin=>by
        have:=(h.qe _ hin).1
        rw [Nat.testBit_lt_two_pow this] at hbit
        cases hbit
      obtain ⟨Q2,y1,y2,y3,y4,y5,y6⟩:=extended_at h.qr h.qs (by omega) (s:=p' ^^^ 2 ^ i) (by omega) (k:=k) hk
      rw [y1]
      simp only [Option.bind_some]
      refine ih (i+1) P Q2 I2 (by omega) ⟨fun q hq=>⟨(h.pok q hq).1,(h.pok q hq).2.1,by have:=(h.pok q hq).2.2;omega⟩,h.pe,h.tri,fun v=>⟨hspanx v,fun hv=>?_⟩,y2,y3,fun v hv=>?_,fun v hv1 hv2=>?_,by rw [y6 hnin];omega,x2,x3,hI2⟩
      · rw [htake,InSpan.snoc] at hv
        rcases hv with hv|hv
        · exact (h.span v).2 hv
        · have:=((h.span _).2 hv).xor r5
          rwa [xor_cancel] at this
      · exact InSpan.sub (P:=fun v=>v< 2 ^ (i+1)∧eff (fun j=>L.getD j 0) L.length v=0) ⟨Nat.two_pow_pos _,eff_zero _ _⟩ (fun u v hu hv=>⟨Nat.xor_lt_two_pow hu.1 hv.1,by rw [eff_xor,hu.2,hv.2];rfl⟩) (fun b hb=>by
          rcases List.mem_cons.1 hb with rfl|hb
          · exact ⟨hpr,hepr⟩
          · have:=h.qe b (InSpan.mem hb)
            exact ⟨by omega,this.2⟩) ((y4 v).1 hv)
      · rw [y4]
        by_cases hb:v.testBit i=true
        · refine .inr (h.ker _ ?_ (by rw [eff_xor,hv2,hepr];rfl))
          have:=low_bit hv1 hb
          rw [show v ^^^ (p' ^^^ 2 ^ i)=(v ^^^ 2 ^ i) ^^^ p' by rw [Nat.xor_assoc,Nat.xor_comm p']]
          exact Nat.xor_lt_two_pow this r3
        · exact .inl (h.ker v (no_bit hv1 hb) hv2)
    · rw [if_neg (by omega),if_pos (by simp [cp];omega)]
      have hcp:cp P++[((l':Int),((p' ^^^ 2 ^ i:Nat):Int))]=cp (P++[(l',p' ^^^ 2 ^ i)]):=by simp [cp]
      rw [hcp]
      refine ih (i+1) (P++[(l',p' ^^^ 2 ^ i)]) Q I2 (by omega) ⟨fun q hq=>?_,fun q hq=>?_,Tri.snoc' h.tri c (r4 c),fun v=>?_,h.qr,h.qs,fun v hv=>⟨by have:=(h.qe v hv).1;omega,(h.qe v hv).2⟩,fun v hv1 hv2=>?_,by rw [List.length_append,List.length_singleton];omega,x2,x3,hI2⟩
      · rcases List.mem_append.1 hq with hq|hq
        · exact ⟨(h.pok q hq).1,(h.pok q hq).2.1,by have:=(h.pok q hq).2.2;omega⟩
        · simp at hq;subst hq;exact ⟨c,r2,hpr⟩
      · rcases List.mem_append.1 hq with hq|hq
        · exact h.pe q hq
        · simp at hq;subst hq;exact hepr
      · rw [List.map_append]
        simp only [List.map_cons,List.map_nil]
        rw [htake,InSpan.snoc,InSpan.snoc,h.span,h.span]
        have r5':=(h.span _).1 r5
        constructor
        · rintro (hv|hv)
          · exact .inl hv
          · refine .inr ?_
            have:=hv.xor r5'
            rwa [show (v ^^^ l') ^^^ (L[i] ^^^ l')=v ^^^ L[i] by rw [Nat.xor_comm L[i],← Nat.xor_assoc,xor_cancel]] at this
        · rintro (hv|hv)
          · exact .inl hv
          · refine .inr ?_
            have:=hv.xor r5'
            rwa [show (v ^^^ L[i]) ^^^ (L[i] ^^^ l')=v ^^^ l' by rw [← Nat.xor_assoc,xor_cancel]] at this
      · by_cases hb:v.testBit i=true
        · exfalso
          have h1:=eff_small L (m:=i) (by omega) (low_bit hv1 hb)
          rw [eff_xor,hv2,Nat.zero_xor,eff_two _ hlt,hgi,← h.span] at h1
          have h2:=h1.xor r5
          rw [xor_xor] at h2
          exact c (tri_no h.tri r4 h2)
        · exact h.ker v (no_bit hv1 hb) hv2
theorem solF_all {L:List Nat} (hL:∀ x ∈ L,x< 65536) (hn:L.length≤16) {k:Nat} (hk:950< k):
    ∃ P Q I,solF k (ci L) 0 [] [] []=some (cp P,ci Q,ci I)∧SI L L.length P Q I:=
  solF_at hL hn hk L.length 0 [] [] [] (by omega)
    { pok:=fun q hq=>(by cases hq)
      pe:=fun q hq=>(by cases hq)
      tri:=trivial
      span:=fun v=>by simp
      qr:=⟨fun b hb=>(by cases hb),List.Pairwise.nil⟩
      qs:=fun b hb=>(by cases hb)
      qe:=fun v hv=>(by
        have:v=0:=hv
        subst this;exact ⟨by simp,eff_zero _ _⟩)
      ker:=fun v hv _=>(by
        have:v=0:=by simpa using hv
        exact this)
      cnt:=rfl
      ir:=⟨fun b hb=>(by cases hb),List.Pairwise.nil⟩
      is:=fun b hb=>(by cases hb)
      il:=Nat.le_refl _}
end Go.Proofs.Ytoobofnpdiapgaa.Sv
namespace Go.Proofs.Ytoobofnpdiapgaa.Sy
open Go.RowKit Go.Proofs.Ytoobofnpdiapgaa.P Go.Proofs.Ytoobofnpdiapgaa.Bt Go.Proofs.Ytoobofnpdiapgaa.Gf Go.Proofs.Ytoobofnpdiapgaa.Sp Go.Proofs.Ytoobofnpdiapgaa.Pa Go.Proofs.Ytoobofnpdiapgaa.St Go.Proofs.YtoobofnpdiapgaaW.PrintWords Go.Proofs.YtoobofnpdiapgaaW.PrintLast Go.Proofs.YtoobofnpdiapgaaW.PrintMore
set_option linter.unusedVariables false
set_option linter.unusedSimpArgs false
def b2i (b:Bool):Int:=if b=true then 1 else 0
theorem b2i_xor (a b:Bool):Go.bits .xor .i64 (b2i a) (b2i b)=b2i (a ^^ b):=by
  have h:∀ x y:Nat,x< 2→y< 2→Go.bits .xor .i64 (x:Int) (y:Int)=((x ^^^ y:Nat):Int):=fun x y hx hy=>bits_xor (by omega) (by omega)
  cases a<;>cases b
  · exact h 0 0 (by omega) (by omega)
  · exact h 0 1 (by omega) (by omega)
  · exact h 1 0 (by omega) (by omega)
  · exact h 1 1 (by omega) (by omega)
theorem b2i_zero (b:Bool):(b2i b==0)=!b:=by cases b<;>rfl
abbrev Sys:=List (Nat × Bool)
def rows (S:Sys):List Nat:=S.map (·.1)
def cs1 (S:Sys):List Int:=ci (rows S)
def cs2 (S:Sys):List Int:=S.map fun (p:Nat × Bool)=>b2i p.2
def putB:Sys→Nat→Bool→Nat × Bool
  |[],v,w=>(v,w)
  |p::S,v,w=>if tb p.1 v=true then putB S (v ^^^ p.1) (w ^^ p.2) else putB S v w
theorem putB_fst:∀ (S:Sys) (v:Nat) (w:Bool),(putB S v w).1=putN (rows S) v
  |[],_,_=>rfl
  |p::S,v,w=>by
    show (if tb p.1 v=true then putB S (v ^^^ p.1) (w ^^ p.2) else putB S v w).1=putN (rows S) (if tb p.1 v=true then v ^^^ p.1 else v)
    split
    · exact putB_fst S _ _
    · exact putB_fst S _ _
theorem putB_closed (D:Nat→Bool→Prop) (hD:∀ u a v b,D u a→D v b→D (u ^^^ v) (a ^^ b)):∀ (S:Sys),(∀ p ∈ S,D p.1 p.2)→∀ v w,D v w→D (putB S v w).1 (putB S v w).2
  |[],_,_,_,h=>h
  |p::S,hS,v,w,h=>by
    rw [putB]
    split
    · exact putB_closed D hD S (fun q hq=>hS q (List.mem_cons_of_mem _ hq)) _ _ (hD _ _ _ _ h (hS p (List.mem_cons_self ..)))
    · exact putB_closed D hD S (fun q hq=>hS q (List.mem_cons_of_mem _ hq)) _ _ h
theorem putS_at {k:Nat} (hk:100< k):∀ (S:Sys),Sm (rows S)→∀ (v:Nat) (w:Bool),v< 65536→putS k (cs1 S) (cs2 S) (v:Int) (b2i w)=some (((putB S v w).1:Int),b2i (putB S v w).2)
  |[],_,_,_,_=>rfl
  |p::S,hS,v,w,hv=>by
    have hp:=hS p.1 (List.mem_cons_self ..)
    have hS':Sm (rows S):=fun b hb=>hS b (List.mem_cons_of_mem _ hb)
    show putS k ((p.1:Int)::cs1 S) (b2i p.2::cs2 S) (v:Int) (b2i w)=_
    rw [putS,soTop_at hp.2 hp.1 hk]
    simp only [Option.bind_some]
    rw [grIn_at hv]
    simp only [Option.bind_some]
    rw [putB]
    show (if tb p.1 v=true then _ else _)=_
    by_cases c:tb p.1 v=true
    · rw [if_pos c,if_pos c,bits_xor (by omega) (by omega),b2i_xor]
      exact putS_at hk S hS' _ _ (xor16 hv hp.2)
    · rw [if_neg c,if_neg c]
      exact putS_at hk S hS' _ _ hv
/-- A system with an equation more. -/
def addS (S:Sys) (v:Nat) (w:Bool):Sys:=if (putB S v w).1=0 then S else S++[putB S v w]
def okS (S:Sys) (v:Nat) (w:Bool):Bool:=if (putB S v w).1=0 then !(putB S v w).2 else true
theorem cs1_snoc (S:Sys) (p:Nat × Bool):cs1 (S++[p])=cs1 S++[(p.1:Int)]:=by simp [cs1,rows,ci]
theorem cs2_snoc (S:Sys) (p:Nat × Bool):cs2 (S++[p])=cs2 S++[b2i p.2]:=by simp [cs2]
theorem putF_at {k:Nat} (hk:100< k) (S:Sys) (hS:Sm (rows S)) (hl:S.length< 1000) (v:Nat) (w:Bool) (hv:v< 65536):
    putF k (cs1 S) (cs2 S) (v:Int) (b2i w)=some (okS S v w,cs1 (addS S v w),cs2 (addS S v w)):=by
  unfold putF okS addS
  rw [putS_at hk S hS v w hv]
  simp only [Option.bind_some]
  by_cases c:(putB S v w).1=0
  · rw [if_pos (by omega),if_pos c,if_pos c,b2i_zero]
  · rw [if_neg (by omega),if_pos ⟨by simp [cs1,rows,ci];omega,by simp [cs2];omega⟩,if_neg c,if_neg c,cs1_snoc,cs2_snoc]
/-- A system with steps, of small rows. -/
structure Ok (n:Nat) (S:Sys):Prop where
  t:Tro (rows S)
  l:∀ b ∈ rows S,b< 2 ^ n
theorem Ok.sm {n:Nat} (hn:n≤16) {S:Sys} (h:Ok n S):Sm (rows S):=fun b hb=>⟨h.t.ne b hb,Nat.lt_of_lt_of_le (h.l b hb) (Nat.le_trans (Nat.pow_le_pow_right (by omega) hn) (by decide))⟩
theorem add_ok {n:Nat} {S:Sys} (h:Ok n S) {v:Nat} (hv:v< 2 ^ n) (w:Bool):Ok n (addS S v w):=by
  unfold addS
  by_cases c:(putB S v w).1=0
  · rw [if_pos c];exact h
  · rw [if_neg c]
    have e:=putB_fst S v w
    refine ⟨?_,fun b hb=>?_⟩
    · unfold rows;rw [List.map_append]
      exact h.t.snoc c (fun r hr=>by
        show tb r (putB S v w).1=false
        rw [e];exact putN_bits h.t v r hr)
    · unfold rows at hb;rw [List.map_append] at hb
      rcases List.mem_append.1 hb with hb|hb
      · exact h.l b hb
      · simp at hb;subst hb;rw [e];exact putN_lt _ v h.l hv
theorem add_span {n:Nat} {S:Sys} (h:Ok n S) (v:Nat) (w:Bool) (u:Nat):InSpan (rows (addS S v w)) u↔InSpan (v::rows S) u:=by
  have e:=putB_fst S v w
  have hsp:=putN_span (rows S) v
  unfold addS
  by_cases c:(putB S v w).1=0
  · rw [if_pos c]
    have hin:=(putN_zero h.t v).1 (e ▸ c)
    exact ⟨fun h=>.inl h,fun h=>InSpan.mono (fun a ha=>by
      rcases List.mem_cons.1 ha with rfl|ha
      · exact hin
      · exact InSpan.mem ha) h⟩
  · rw [if_neg c]
    unfold rows
    rw [List.map_append]
    simp only [List.map_cons,List.map_nil]
    rw [InSpan.snoc,e]
    show (InSpan (rows S) u∨InSpan (rows S) (u ^^^ putN (rows S) v))↔(InSpan (rows S) u∨InSpan (rows S) (u ^^^ v))
    have key:∀ a b,InSpan (rows S) (a ^^^ b)→InSpan (rows S) (u ^^^ a)→InSpan (rows S) (u ^^^ b):=fun a b hab hu=>by
      have:=hu.xor hab
      rwa [show (u ^^^ a) ^^^ (a ^^^ b)=u ^^^ b by rw [← Nat.xor_assoc,xor_cancel]] at this
    constructor
    · rintro (hu|hu)
      · exact .inl hu
      · exact .inr (key _ v (by rw [Nat.xor_comm];exact hsp) hu)
    · rintro (hu|hu)
      · exact .inl hu
      · exact .inr (key v _ hsp hu)
theorem add_len (S:Sys) (v:Nat) (w:Bool):(addS S v w).length≤S.length+1:=by
  unfold addS;split<;>simp
theorem add_all (D:Nat→Bool→Prop) (hD:∀ u a v b,D u a→D v b→D (u ^^^ v) (a ^^ b)) {S:Sys} (hS:∀ p ∈ S,D p.1 p.2) {v:Nat} {w:Bool} (h:D v w):∀ p ∈ addS S v w,D p.1 p.2:=by
  unfold addS
  split
  · exact hS
  · intro p hp
    rcases List.mem_append.1 hp with hp|hp
    · exact hS p hp
    · simp at hp;subst hp;exact putB_closed D hD S hS v w h
theorem bit_val {W i:Nat} (hW:W< 65536):Int.tmod (shr .i64 (W:Int) (i:Int)) 2=b2i (W.testBit i):=by
  have h:=grIn_val (s:=W) (i:=i) (by omega)
  rw [shr_nat (by omega),tmod_two] at h ⊢
  rw [← h]
  unfold b2i
  have h2:(W>>>i) % 2=0∨(W>>>i) % 2=1:=by omega
  rcases h2 with h2|h2<;>rw [h2]<;>rfl
/-- All equations are put in; none is refused where what is derived never is. -/
theorem sol1_at {n:Nat} (hn:n≤16) {k:Nat} (hk:100< k) (D:Nat→Bool→Prop) (hD:∀ u a v b,D u a→D v b→D (u ^^^ v) (a ^^ b)) (hD0:∀ w,D 0 w→w=false)
    {L:List Nat} (hL:∀ x ∈ L,x< 2 ^ n) (hLn:L.length=n) {W:Nat} (hW:W< 65536) (hDL:∀ i (h:i< L.length),D L[i] (W.testBit i)):
    ∀ (d i:Nat) (S:Sys),i+d=L.length→Ok n S→S.length≤i→(∀ p ∈ S,D p.1 p.2)→(∀ v,InSpan (rows S) v↔InSpan (L.take i) v)→
    ∃ S':Sys,sol1 k (W:Int) (ci (L.drop i)) i (cs1 S) (cs2 S)=some (true,cs1 S',cs2 S')∧Ok n S'∧S'.length≤n∧(∀ p ∈ S',D p.1 p.2)∧(∀ v,InSpan (rows S') v↔InSpan L v):=by
  have h16:2 ^ n≤65536:=Nat.le_trans (Nat.pow_le_pow_right (by omega) hn) (by decide)
  intro d
  induction d with
  |zero=>
    intro i S hi hO hl hS hsp
    have:i=L.length:=by omega
    subst this
    rw [List.take_length] at hsp
    refine ⟨S,?_,hO,by omega,hS,hsp⟩
    rw [List.drop_length];rfl
  |succ d ih=>
    intro i S hi hO hl hS hsp
    have hlt:i< L.length:=by omega
    have hx:=hL L[i] (List.getElem_mem hlt)
    have hcons:ci (L.drop i)=(L[i]:Int)::ci (L.drop (i+1)):=by rw [List.drop_eq_getElem_cons hlt];rfl
    rw [hcons,sol1,bit_val hW,putF_at hk S (hO.sm hn) (by omega) L[i] _ (by omega)]
    simp only [Option.bind_some]
    have hok:okS S L[i] (W.testBit i)=true:=by
      unfold okS
      split
      · rename_i c
        have h1:=putB_closed D hD S hS _ _ (hDL i hlt)
        rw [c] at h1
        rw [hD0 _ h1];rfl
      · rfl
    rw [hok,if_pos rfl]
    refine ih (i+1) _ (by omega) (add_ok hO hx _) (by have:=add_len S L[i] (W.testBit i);omega) (add_all D hD hS (hDL i hlt)) (fun v=>?_)
    rw [add_span hO,List.take_succ_eq_append_getElem hlt,InSpan.snoc]
    show (InSpan (rows S) v∨InSpan (rows S) (v ^^^ L[i]))↔_
    rw [hsp,hsp]
theorem xs_single (f:Nat→Bool) (t:Nat):∀ n,xs (fun i=>(2 ^ t).testBit i && f i) n=(decide (t< n) && f t)
  |0=>by simp [xs]
  |n+1=>by
    rw [xs,xs_single f t n,Nat.testBit_two_pow]
    by_cases e:t=n
    · subst e;simp
    · rw [decide_eq_false e]
      by_cases h:t< n
      · rw [decide_eq_true h,decide_eq_true (by omega)];simp
      · rw [decide_eq_false h,decide_eq_false (by omega)];simp
theorem dot_two {n t:Nat} (h:t< n) (u:Nat):dot n (2 ^ t) u=u.testBit t:=by
  unfold dot;rw [xs_single,decide_eq_true h];rfl
def Sat (n:Nat) (S:Sys) (x:Nat):Prop:=∀ p ∈ S,dot n p.1 x=p.2
theorem solvable {n:Nat}:∀ (S:Sys),Ok n S→∃ y,y< 2 ^ n∧Sat n S y
  |[],_=>⟨0,Nat.two_pow_pos n,fun p hp=>by cases hp⟩
  |p::S,h=>by
    have hO:Ok n S:=⟨h.t.2.2,fun b hb=>h.l b (List.mem_cons_of_mem _ hb)⟩
    obtain ⟨y,hy,hs⟩:=solvable S hO
    by_cases c:dot n p.1 y=p.2
    · exact ⟨y,hy,fun q hq=>by
        rcases List.mem_cons.1 hq with rfl|hq
        · exact c
        · exact hs q hq⟩
    · have hp0:=h.t.1
      have hpn:=h.l p.1 (List.mem_cons_self ..)
      have ht:bl p.1 - 1< n:=by
        have e1:bl p.1≤n:=bl_le_iff.2 hpn
        have e2:1≤bl p.1:=bl_ge1 hp0
        omega
      refine ⟨y ^^^ 2 ^ (bl p.1 - 1),Nat.xor_lt_two_pow hy (Nat.pow_lt_pow_right (by omega) ht),fun q hq=>?_⟩
      rw [dot_comm,dot_xor,dot_two ht,dot_comm]
      rcases List.mem_cons.1 hq with rfl|hq
      · rw [show q.1.testBit (bl q.1 - 1)=true from tb_self hp0]
        revert c
        cases dot n q.1 y<;>cases q.2<;>simp
      · rw [show q.1.testBit (bl p.1 - 1)=false from h.t.2.1 q.1 (List.mem_map.2 ⟨q,hq,rfl⟩),hs q hq];simp
theorem sat_span {n:Nat} {x y:Nat}:∀ (S:Sys),Sat n S x→Sat n S y→∀ u,InSpan (rows S) u→dot n u x=dot n u y
  |[],_,_,u,h=>by
    have:u=0:=h
    subst this;rw [dot_zero,dot_zero]
  |p::S,hx,hy,u,h=>by
    have hx':Sat n S x:=fun q hq=>hx q (List.mem_cons_of_mem _ hq)
    have hy':Sat n S y:=fun q hq=>hy q (List.mem_cons_of_mem _ hq)
    rcases h with h|h
    · exact sat_span S hx' hy' u h
    · have h1:=sat_span S hx' hy' _ h
      rw [dot_xor,dot_xor] at h1
      have e1:=hx p (List.mem_cons_self ..);have e2:=hy p (List.mem_cons_self ..)
      have e3:dot n p.1 x=dot n p.1 y:=e1.trans e2.symm
      rw [e3] at h1
      revert h1
      cases dot n u x<;>cases dot n u y<;>cases dot n p.1 y<;>simp
theorem put_rel {n:Nat} {x:Nat}:∀ (S:Sys),Sat n S x→∀ (v:Nat) (w:Bool),(dot n (putB S v w).1 x ^^ (putB S v w).2)=(dot n v x ^^ w)
  |[],_,_,_=>rfl
  |p::S,hS,v,w=>by
    have hS':Sat n S x:=fun q hq=>hS q (List.mem_cons_of_mem _ hq)
    have hp:dot n p.1 x=p.2:=hS p (List.mem_cons_self ..)
    rw [putB]
    split
    · rw [put_rel S hS' _ _,dot_xor,hp]
      cases dot n v x<;>cases w<;>cases p.2<;>rfl
    · exact put_rel S hS' v w
theorem sat_add {n:Nat} {x:Nat} {S:Sys} (hS:Sat n S x) {v:Nat} {w:Bool} (h:dot n v x=w):Sat n (addS S v w) x:=by
  unfold addS
  split
  · exact hS
  · intro p hp
    rcases List.mem_append.1 hp with hp|hp
    · exact hS p hp
    · simp at hp;subst hp
      have:=put_rel S hS v w
      rw [h] at this
      revert this
      cases dot n (putB S v w).1 x<;>cases (putB S v w).2<;>cases w<;>simp
theorem sat_of_add {n:Nat} {x:Nat} {S:Sys} {v:Nat} {w:Bool} (h:Sat n (addS S v w) x):Sat n S x:=by
  unfold addS at h
  split at h
  · exact h
  · exact fun p hp=>h p (List.mem_append.2 (.inl hp))
/-- Where the row is a sum of the others: what it says of a solution. -/
theorem ok_in {n:Nat} {x:Nat} {S:Sys} (hS:Sat n S x) {v:Nat} {w:Bool} (c:(putB S v w).1=0):okS S v w=(dot n v x==w):=by
  have h:=put_rel S hS v w
  unfold okS
  rw [if_pos c]
  rw [c,dot_zero] at h
  revert h
  cases (putB S v w).2<;>cases dot n v x<;>cases w<;>simp
theorem shl_at {m:Nat} (h:m< 16):shl .i64 1 (m:Int)=((2 ^ m:Nat):Int):=by
  have hp:2 ^ m≤32768:=Nat.le_trans (Nat.pow_le_pow_right (by omega) (show m≤15 by omega)) (by decide)
  have:=shl_nat (a:=1) (n:=m) (by omega) (by rw [Nat.one_mul];omega)
  rw [Nat.shiftLeft_eq,Nat.one_mul] at this
  exact this
theorem lt_bit {x y m:Nat} (hx:x.testBit m=false) (hy:y.testBit m=true) (h:∀ j,m< j→x.testBit j=y.testBit j):x< y:=by
  have e:x / 2 ^ (m+1)=y / 2 ^ (m+1):=by
    apply Nat.eq_of_testBit_eq
    intro j
    rw [Nat.testBit_div_two_pow,Nat.testBit_div_two_pow]
    exact h _ (by omega)
  have h1:x % 2 ^ (m+1)< 2 ^ m:=by
    apply Nat.lt_pow_two_of_testBit
    intro i hi
    rw [Nat.testBit_mod_two_pow]
    rcases Nat.eq_or_lt_of_le hi with rfl|hi
    · rw [hx];simp
    · rw [decide_eq_false (by omega)];simp
  have h2:2 ^ m≤y % 2 ^ (m+1):=by
    rcases Nat.lt_or_ge (y % 2 ^ (m+1)) (2 ^ m) with c|c
    · have:=Nat.testBit_lt_two_pow c
      rw [Nat.testBit_mod_two_pow,hy] at this
      simp at this
    · exact c
  have d1:=Nat.div_add_mod x (2 ^ (m+1))
  have d2:=Nat.div_add_mod y (2 ^ (m+1))
  rw [e] at d1
  omega
/-- The buttons are settled from the greatest one down: the least solution. -/
theorem sol2_at {n:Nat} (hn:n≤16) {k:Nat} (hk:100< k) {r:Nat} (hr:r< 2 ^ n) {S0:Sys} (hleast:∀ y,y< 2 ^ n→Sat n S0 y→r≤y):
    ∀ (m:Nat) (S:Sys),m≤n→Ok n S→S.length+2*m≤100→Sat n S r→(∀ y,Sat n S y→Sat n S0 y)→(∀ j,m≤j→j< n→InSpan (rows S) (2 ^ j))→
    ∃ S':Sys,sol2 k m (cs1 S) (cs2 S)=some (cs1 S',cs2 S')∧Ok n S'∧S'.length≤100∧Sat n S' r∧(∀ j,j< n→InSpan (rows S') (2 ^ j)):=by
  have h16:2 ^ n≤65536:=Nat.le_trans (Nat.pow_le_pow_right (by omega) hn) (by decide)
  intro m
  induction m with
  |zero=>intro S _ hO hl hs _ hsp;exact ⟨S,rfl,hO,by omega,hs,fun j hj=>hsp j (Nat.zero_le _) hj⟩
  |succ m ih=>
    intro S hm hO hl hs h0 hsp
    have hpm:2 ^ m< 2 ^ n:=Nat.pow_lt_pow_right (by omega) (by omega)
    have hf:=putF_at hk S (hO.sm hn) (by omega) (2 ^ m) false (by omega)
    have hdr:dot n (2 ^ m) r=r.testBit m:=dot_two (by omega) r
    have hspan:∀ w,∀ j,m≤j→j< n→InSpan (rows (addS S (2 ^ m) w)) (2 ^ j):=fun w j h1 h2=>by
      rw [add_span hO]
      rcases Nat.eq_or_lt_of_le h1 with rfl|h1
      · exact InSpan.mem (List.mem_cons_self ..)
      · exact .inl (hsp j h1 h2)
    rw [sol2,shl_at (by omega)]
    rw [show b2i false=0 from rfl] at hf
    rw [hf]
    simp only [Option.bind_some]
    by_cases c:(putB S (2 ^ m) false).1=0
    · have hadd:∀ w,addS S (2 ^ m) w=S:=fun w=>by
        unfold addS
        rw [if_pos (by rw [putB_fst] at c ⊢;exact c)]
      rw [ok_in hs c,hdr,hadd]
      have hspS:∀ j,m≤j→j< n→InSpan (rows S) (2 ^ j):=fun j h1 h2=>by have:=hspan false j h1 h2;rwa [hadd] at this
      by_cases hb:r.testBit m=false
      · rw [hb,if_pos (by rfl)]
        exact ih S (by omega) hO (by omega) hs h0 hspS
      · have hb':r.testBit m=true:=by simpa using hb
        have hf1:=putF_at hk S (hO.sm hn) (by omega) (2 ^ m) true (by omega)
        rw [show b2i true=1 from rfl] at hf1
        rw [hb',if_neg (by decide),hf1]
        simp only [Option.bind_some]
        rw [hadd]
        exact ih S (by omega) hO (by omega) hs h0 hspS
    · have hok:okS S (2 ^ m) false=true:=by unfold okS;rw [if_neg c]
      rw [hok,if_pos rfl]
      have hO':=add_ok hO hpm false
      have hlen:=add_len S (2 ^ m) false
      have hb:r.testBit m=false:=by
        rw [Bool.eq_false_iff]
        intro hb
        obtain ⟨y,hy,hys⟩:=solvable _ hO'
        have hyS:=sat_of_add hys
        have hyb:y.testBit m=false:=by
          have hmem:(putB S (2 ^ m) false) ∈ addS S (2 ^ m) false:=by unfold addS;rw [if_neg c];simp
          have h1:=put_rel S hyS (2 ^ m) false
          rw [hys _ hmem] at h1
          rw [← dot_two (show m< n by omega) y]
          revert h1
          cases (putB S (2 ^ m) false).2<;>cases dot n (2 ^ m) y<;>simp
        have hlt:y< r:=lt_bit (m:=m) hyb hb (fun j hj=>by
          by_cases hjn:j< n
          · have:=sat_span S hyS hs _ (hsp j hj hjn)
            rwa [dot_two hjn,dot_two hjn] at this
          · have hp:2 ^ n≤2 ^ j:=Nat.pow_le_pow_right (by omega) (by omega)
            rw [Nat.testBit_lt_two_pow (by omega),Nat.testBit_lt_two_pow (by omega)])
        have:=hleast y hy (h0 y hyS)
        omega
      exact ih _ (by omega) hO' (by omega) (sat_add hs (by rw [hdr,hb])) (fun y hy=>h0 y (sat_of_add hy)) (hspan false)
theorem or_bit {r i:Nat}:(r % 2 ^ i)|||(if r.testBit i=true then 2 ^ i else 0)=r % 2 ^ (i+1):=by
  apply Nat.eq_of_testBit_eq
  intro j
  rw [Nat.testBit_or,Nat.testBit_mod_two_pow,Nat.testBit_mod_two_pow]
  by_cases hb:r.testBit i=true
  · rw [if_pos hb,Nat.testBit_two_pow]
    rcases Nat.lt_trichotomy j i with h|h|h
    · rw [decide_eq_true h,decide_eq_true (show j< i+1 by omega),decide_eq_false (show ¬ i=j by omega)];simp
    · subst h;simp [hb]
    · rw [decide_eq_false (show ¬ j< i by omega),decide_eq_false (show ¬ j< i+1 by omega),decide_eq_false (show ¬ i=j by omega)];simp
  · rw [if_neg hb]
    rcases Nat.lt_trichotomy j i with h|h|h
    · rw [decide_eq_true h,decide_eq_true (show j< i+1 by omega)];simp
    · subst h
      have hb':r.testBit j=false:=by simpa using hb
      simp [hb']
    · rw [decide_eq_false (show ¬ j< i by omega),decide_eq_false (show ¬ j< i+1 by omega)];simp
theorem sol3_at {n:Nat} (hn:n≤16) {k:Nat} (hk:100< k) {r:Nat} (hr:r< 2 ^ n) {S:Sys} (hO:Ok n S) (hl:S.length≤100) (hs:Sat n S r) (hsp:∀ j,j< n→InSpan (rows S) (2 ^ j)):
    ∀ (d i:Nat),i+d=n→sol3 k (cs1 S) (cs2 S) d i ((r % 2 ^ i:Nat):Int)=some (r:Int):=by
  have h16:2 ^ n≤65536:=Nat.le_trans (Nat.pow_le_pow_right (by omega) hn) (by decide)
  intro d
  induction d with
  |zero=>
    intro i hi
    have:i=n:=by omega
    subst this
    rw [sol3,Nat.mod_eq_of_lt hr]
  |succ d ih=>
    intro i hi
    have hpm:2 ^ i< 2 ^ n:=Nat.pow_lt_pow_right (by omega) (by omega)
    have hf:=putF_at hk S (hO.sm hn) (by omega) (2 ^ i) false (by omega)
    rw [show b2i false=0 from rfl] at hf
    have c:(putB S (2 ^ i) false).1=0:=by rw [putB_fst];exact (putN_zero hO.t _).2 (hsp i (by omega))
    rw [sol3,shl_at (by omega),hf]
    simp only [Option.bind_some]
    rw [ok_in hs c,dot_two (by omega)]
    have hob:=or_bit (r:=r) (i:=i)
    have hmod:r % 2 ^ i< 65536:=by have:=Nat.mod_lt r (Nat.two_pow_pos i);omega
    have hrec:=ih (i+1) (by omega)
    by_cases hb:r.testBit i=true
    · rw [if_pos hb] at hob
      rw [hb,if_neg (by decide),bits_or (by omega) (by omega),hob]
      exact hrec
    · have hb':r.testBit i=false:=by simpa using hb
      rw [if_neg hb,Nat.or_zero] at hob
      rw [hb',if_pos (by rfl),hob]
      exact hrec
/-- The model's answer: the number of free buttons, and the least solution. -/
theorem paSol_at {n:Nat} (hn:n≤16) (D:Nat→Bool→Prop) (hD:∀ u a v b,D u a→D v b→D (u ^^^ v) (a ^^ b)) (hD0:∀ w,D 0 w→w=false)
    {L:List Nat} (hL:∀ x ∈ L,x< 2 ^ n) (hLn:L.length=n) {W:Nat} (hW:W< 65536) (hDL:∀ i (h:i< L.length),D L[i] (W.testBit i)):
    ∃ (S:Sys) (r:Nat),spec_paSolutions.f (n:Int) (ci L) (W:Int)=some (((n - S.length:Nat):Int),(r:Int),true)∧Ok n S∧S.length≤n∧(∀ v,InSpan (rows S) v↔InSpan L v)∧(∀ p ∈ S,D p.1 p.2)∧
      r< 2 ^ n∧Sat n S r∧∀ y,y< 2 ^ n→Sat n S y→r≤y:=by
  obtain ⟨S,e1,hO,hl,hS,hsp⟩:=sol1_at hn (k:=1000) (by omega) D hD hD0 hL hLn hW hDL L.length 0 [] (by omega) ⟨trivial,fun b hb=>by cases hb⟩ (Nat.le_refl _) (fun p hp=>by cases hp) (fun v=>by simp [rows])
  rw [List.drop_zero] at e1
  have hex:∃ r,r< 2 ^ n∧Sat n S r∧∀ y,y< 2 ^ n→Sat n S y→r≤y:=by
    obtain ⟨y,hy,hys⟩:=solvable S hO
    have key:∀ b z,z≤b→z< 2 ^ n→Sat n S z→∃ r,r< 2 ^ n∧Sat n S r∧∀ y,y< 2 ^ n→Sat n S y→r≤y:=by
      intro b
      induction b with
      |zero=>intro z hz h1 h2;exact ⟨z,h1,h2,fun y _ _=>by omega⟩
      |succ b ih=>
        intro z hz h1 h2
        by_cases c:∃ u,u< z∧u< 2 ^ n∧Sat n S u
        · obtain ⟨u,hu,hu1,hu2⟩:=c
          exact ih u (by omega) hu1 hu2
        · refine ⟨z,h1,h2,fun y hy1 hy2=>?_⟩
          rcases Nat.lt_or_ge y z with h|h
          · exact absurd ⟨y,h,hy1,hy2⟩ c
          · exact h
    exact key y y (Nat.le_refl _) hy hys
  obtain ⟨r,hr,hrs,hleast⟩:=hex
  obtain ⟨S2,e2,hO2,hl2,hs2,hsp2⟩:=sol2_at hn (k:=1000) (by omega) hr hleast n S (Nat.le_refl _) hO (by omega) hrs (fun y hy=>hy) (fun j h1 h2=>by omega)
  have e3:=sol3_at hn (k:=1000) (by omega) hr hO2 hl2 hs2 hsp2 n 0 (by omega)
  refine ⟨S,r,?_,hO,hl,hsp,hS,hr,hrs,hleast⟩
  unfold spec_paSolutions.f spec_paSolutions.fk
  rw [if_pos ⟨by omega,by omega⟩]
  rw [show (cs1 ([]:Sys))=[] from rfl,show (cs2 ([]:Sys))=[] from rfl] at e1
  rw [e1]
  simp only [Option.bind_some,if_true]
  rw [Int.toNat_natCast,e2]
  simp only [Option.bind_some]
  rw [if_pos ⟨by simp [cs1,rows,ci];omega,by simp [cs2];omega⟩]
  rw [Nat.pow_zero,Nat.mod_one] at e3
  rw [show ((0:Nat):Int)=0 from rfl] at e3
  rw [e3]
  simp only [Option.bind_some]
  have hlen:(cs1 S).length=S.length:=by simp [cs1,rows,ci]
  rw [hlen,wrap_id (by omega) (by omega)]
  congr 2
  omega
end Go.Proofs.Ytoobofnpdiapgaa.Sy
namespace Go.Proofs.Ytoobofnpdiapgaa.Bo
open Go.RowKit Go.Proofs.Ytoobofnpdiapgaa.P Go.Proofs.Ytoobofnpdiapgaa.Bt Go.Proofs.Ytoobofnpdiapgaa.Gf Go.Proofs.Ytoobofnpdiapgaa.Sp Go.Proofs.Ytoobofnpdiapgaa.Pa Go.Proofs.Ytoobofnpdiapgaa.St Go.Proofs.Ytoobofnpdiapgaa.Sv Go.Proofs.Ytoobofnpdiapgaa.Sy Go.Proofs.YtoobofnpdiapgaaW.PrintWords Go.Proofs.YtoobofnpdiapgaaW.PrintLast Go.Proofs.YtoobofnpdiapgaaW.PrintMore
set_option linter.unusedVariables false
set_option linter.unusedSimpArgs false
/-- A symmetric system, whose diagonal is asked for. -/
structure Sym (L:List Nat) (W:Nat):Prop where
  n:L.length≤16
  l:∀ x ∈ L,x< 2 ^ L.length
  s:∀ i j,i< L.length→j< L.length→(L.getD i 0).testBit j=(L.getD j 0).testBit i
  w:W< 2 ^ L.length
  d:∀ i,i< L.length→W.testBit i=(L.getD i 0).testBit i
theorem dot_eff {n:Nat} (e:Nat→Nat) (T y:Nat):∀ m,dot n (eff e m T) y=xs (fun j=>T.testBit j && dot n (e j) y) m
  |0=>dot_zero n y
  |m+1=>by
    rw [eff,xs,dot_xor,dot_eff e T y m]
    congr 1
    cases T.testBit m<;>simp [dot_zero]
theorem pow_le16 {n:Nat} (hn:n≤16):2 ^ n≤65536:=Nat.le_trans (Nat.pow_le_pow_right (by omega) hn) (by decide)
theorem spec_main {L:List Nat} {W:Nat} (h:Sym L W):∃ m r:Nat,spec_paSolutions.f (L.length:Int) (ci L) (W:Int)=some (((L.length - m:Nat):Int),(r:Int),true)∧m≤L.length∧
    (∀ B,Tri B→(∀ v,InSpan B v↔InSpan L v)→B.length=m)∧r< 2 ^ L.length∧eff (fun j=>L.getD j 0) L.length r=W∧∀ y,y< 2 ^ L.length→eff (fun j=>L.getD j 0) L.length y=W→r≤y:=by
  have h16:=pow_le16 h.n
  let e:=fun j=>L.getD j 0
  let D:Nat→Bool→Prop:=fun u a=>∃ T,eff e L.length T=u∧dot L.length T W=a
  have hD:∀ u a v b,D u a→D v b→D (u ^^^ v) (a ^^ b):=by
    rintro u a v b ⟨T,h1,h2⟩ ⟨T',h3,h4⟩
    exact ⟨T ^^^ T',by rw [eff_xor,h1,h3],by rw [dot_xor,h2,h4]⟩
  have hD0:∀ w,D 0 w→w=false:=by
    rintro w ⟨T,h1,h2⟩
    rw [← h2]
    exact gallai (e:=e) h.s h.d (fun j _=>by rw [h1];simp)
  have hDL:∀ i (hi:i< L.length),D L[i] (W.testBit i):=fun i hi=>⟨2 ^ i,by rw [eff_two _ hi];simp [e,hi],dot_two hi W⟩
  obtain ⟨S,r,e1,hO,hl,hsp,hS,hr,hrs,hleast⟩:=paSol_at h.n D hD hD0 h.l rfl (W:=W) (by have:=h.w;omega) hDL
  have hsat:∀ y,y< 2 ^ L.length→(Sat L.length S y↔eff e L.length y=W):=by
    intro y hy
    constructor
    · intro hs
      have hrow:∀ i,i< L.length→dot L.length (e i) y=W.testBit i:=fun i hi=>by
        have hin:InSpan (rows S) L[i]:=(hsp _).2 (InSpan.mem (List.getElem_mem hi))
        have c:(putB S L[i] (W.testBit i)).1=0:=by rw [putB_fst];exact (putN_zero hO.t _).2 hin
        have h1:=putB_closed D hD S hS _ _ (hDL i hi)
        rw [c] at h1
        have h2:=put_rel S hs L[i] (W.testBit i)
        rw [c,hD0 _ h1,dot_zero] at h2
        rw [show e i=L[i] by simp [e,hi]]
        revert h2
        cases dot L.length L[i] y<;>cases W.testBit i<;>simp
      have hlt:eff e L.length y< 2 ^ L.length:=eff_lt e _ _ (fun i hi=>by
        show L.getD i 0< _
        rw [show L.getD i 0=L[i] by simp [hi]];exact h.l _ (List.getElem_mem hi))
      apply Nat.eq_of_testBit_eq
      intro i
      by_cases hi:i< L.length
      · rw [eff_bit_at,← hrow i hi,dot_comm]
        exact xs_congr _ (fun j hj=>by rw [show (e j).testBit i=(e i).testBit j from h.s j i hj hi])
      · have hp:2 ^ L.length≤2 ^ i:=Nat.pow_le_pow_right (by omega) (by omega)
        rw [Nat.testBit_lt_two_pow (by omega),Nat.testBit_lt_two_pow (by have:=h.w;omega)]
    · intro hy2 p hp
      obtain ⟨T,h1,h2⟩:=hS p hp
      rw [← h1,← h2,dot_eff]
      refine xs_congr _ (fun j hj=>?_)
      congr 1
      rw [← hy2,eff_bit_at,dot_comm]
      exact xs_congr _ (fun i hi=>by rw [show (e i).testBit j=(e j).testBit i from h.s i j hi hj])
  refine ⟨S.length,r,e1,hl,fun B hB hv=>?_,hr,(hsat r hr).1 hrs,fun y hy hy2=>hleast y hy ((hsat y hy).2 hy2)⟩
  have:=tri_len hB hO.t.tri (fun v=>(hv v).trans (hsp v).symm)
  rw [this];simp [rows]
theorem impl_main {L:List Nat} {W:Nat} (h:Sym L W):∃ m r:Nat,spec_paSolutions.f (L.length:Int) (ci L) (W:Int)=some (((L.length - m:Nat):Int),(r:Int),true)∧m≤L.length∧r< 2 ^ L.length∧
    ∃ (P:List (Nat × Nat)) (Q I:List Nat),solF 1000 (ci L) 0 [] [] []=some (cp P,ci Q,ci I)∧Q.length=L.length - m∧
      ∃ rp:Nat,reachL (cp P) 1000 (W:Int) 0=some (0,(rp:Int))∧impl_reduced.f (ci Q) (rp:Int)=some (r:Int):=by
  have h16:=pow_le16 h.n
  obtain ⟨m,r,e1,hm,htl,hr,hre,hleast⟩:=spec_main h
  obtain ⟨P,Q,I,s1,hI⟩:=solF_all (L:=L) (fun x hx=>by have:=h.l x hx;omega) h.n (k:=1000) (by omega)
  have hspL:∀ v,InSpan (P.map (·.1)) v↔InSpan L v:=fun v=>by rw [hI.span,List.take_length]
  have hlen:=htl _ hI.tri hspL
  rw [List.length_map] at hlen
  have hcnt:=hI.cnt
  refine ⟨m,r,e1,hm,hr,P,Q,I,s1,by omega,?_⟩
  have hW16:W< 65536:=by have:=h.w;omega
  obtain ⟨l',p',r1,r2,r3,r4,r5,r6⟩:=reach_at (m:=L.length) h.n hI.pok 16 W 0 1000 (bl16 hW16) hW16 (Nat.two_pow_pos _) (by omega)
  have hef:=r6 (eff (fun j=>L.getD j 0) L.length) (eff_xor _ _) hI.pe
  rw [eff_zero,Nat.zero_xor] at hef
  have hWin:InSpan (P.map (·.1)) W:=by
    rw [hspL,← List.take_length (l:=L),← hre]
    exact eff_small L (Nat.le_refl _) hr
  have hl0:l'=0:=tri_no hI.tri r4 (by have:=hWin.xor r5;rwa [xor_xor] at this)
  subst hl0
  rw [Nat.xor_zero] at hef
  have hp16:p'< 65536:=by omega
  refine ⟨p',r1,?_⟩
  have hQl:∀ s ∈ Q.reverse,s< 2 ^ L.length:=fun s hs=>(hI.qe s (InSpan.mem (List.mem_reverse.1 hs))).1
  have hT:Tro Q.reverse:=(hI.qr.perm (List.reverse_perm Q)).tro
  have hx:=putN_lt Q.reverse p' hQl r3
  have hspx:InSpan Q (p' ^^^ putN Q.reverse p'):=(InSpan.perm (List.reverse_perm Q) _).1 (putN_span _ _)
  have hxe:eff (fun j=>L.getD j 0) L.length (putN Q.reverse p')=W:=by
    have:=(hI.qe _ hspx).2
    rw [eff_xor,hef] at this
    exact (xor_eq_zero.1 this).symm
  rw [reduced_at hI.qs (by have:=h.n;omega) hp16]
  congr 2
  have hle1:=hleast _ hx hxe
  have hle2:putN Q.reverse p'≤r:=by
    by_cases c:putN Q.reverse p' ^^^ r=0
    · rw [xor_eq_zero.1 c];exact Nat.le_refl _
    · have hz:=hI.ker _ (Nat.xor_lt_two_pow hx hr) (by rw [eff_xor,hxe,hre];exact Nat.xor_self W)
      obtain ⟨b,hb,e⟩:=hI.qr.tro.tri.top hz c
      have hlack:=putN_bits hT p' b (List.mem_reverse.2 hb)
      have htop:(putN Q.reverse p' ^^^ r).testBit (bl b - 1)=true:=by rw [e];exact top_bit c
      rw [Nat.testBit_xor,show (putN Q.reverse p').testBit (bl b - 1)=false from hlack] at htop
      refine Nat.le_of_lt (lt_bit (m:=bl b - 1) hlack (by simpa using htop) (fun j hj=>?_))
      have ha:(putN Q.reverse p' ^^^ r).testBit j=false:=above (by have:=bl_ge1 c;omega)
      rw [Nat.testBit_xor] at ha
      revert ha
      cases (putN Q.reverse p').testBit j<;>cases r.testBit j<;>simp
  omega
/-- The places that are asked for. -/
def wOf (f:Nat→Bool):Nat→Nat
  |0=>0
  |n+1=>wOf f n|||(if f n=true then 2 ^ n else 0)
theorem wOf_bit (f:Nat→Bool) (i:Nat):∀ n,(wOf f n).testBit i=(decide (i< n) && f i)
  |0=>by simp [wOf]
  |n+1=>by
    rw [wOf,Nat.testBit_or,wOf_bit f i n]
    have h2:(if f n=true then 2 ^ n else 0).testBit i=(f n && decide (n=i)):=by
      by_cases c:f n=true
      · rw [if_pos c,Nat.testBit_two_pow,c];simp
      · rw [if_neg c];simp [c]
    rw [h2]
    rcases Nat.lt_trichotomy i n with h|h|h
    · rw [decide_eq_true h,decide_eq_true (show i< n+1 by omega),decide_eq_false (show ¬ n=i by omega)];simp
    · subst h;simp
    · rw [decide_eq_false (show ¬ i< n by omega),decide_eq_false (show ¬ i< n+1 by omega),decide_eq_false (show ¬ n=i by omega)];simp
theorem wOf_lt (f:Nat→Bool):∀ n,wOf f n< 2 ^ n
  |0=>by simp [wOf]
  |n+1=>by
    have:=wOf_lt f n
    have hp:2 ^ n< 2 ^ (n+1):=Nat.pow_lt_pow_right (by omega) (by omega)
    rw [wOf]
    refine Nat.or_lt_two_pow (by omega) ?_
    split
    · exact hp
    · exact Nat.two_pow_pos _
/-- Near rows, with the button itself where it is asked for. -/
def rowF (R:Nat→Nat) (f:Nat→Bool) (i:Nat):Nat:=if f i=true then R i|||2 ^ i else R i
def lF (R:Nat→Nat) (f:Nat→Bool) (n:Nat):List Nat:=(List.range n).map (rowF R f)
theorem lF_len (R:Nat→Nat) (f:Nat→Bool) (n:Nat):(lF R f n).length=n:=by simp [lF]
theorem lF_at (R:Nat→Nat) (f:Nat→Bool) {n i:Nat} (h:i< n):(lF R f n).getD i 0=rowF R f i:=by simp [lF,h]
theorem rowF_bit (R:Nat→Nat) (f:Nat→Bool) (i j:Nat):(rowF R f i).testBit j=((R i).testBit j||(f i && decide (i=j))):=by
  unfold rowF
  by_cases c:f i=true
  · rw [if_pos c,Nat.testBit_or,Nat.testBit_two_pow,c];simp
  · rw [if_neg c];simp [c]
theorem lF_sym {R:Nat→Nat} {n:Nat} (hn:n≤16) (hs:∀ a b,a< n→b< n→(R a).testBit b=(R b).testBit a) (hl:∀ a,a< n→(R a).testBit a=false) (hR:∀ a,a< n→R a< 2 ^ n) (f:Nat→Bool):Sym (lF R f n) (wOf f n):=by
  refine ⟨by rw [lF_len];exact hn,fun x hx=>?_,fun i j hi hj=>?_,by rw [lF_len];exact wOf_lt f n,fun i hi=>?_⟩
  · rw [lF_len]
    obtain ⟨i,hi,rfl⟩:=List.mem_map.1 hx
    have hi':i< n:=List.mem_range.1 hi
    unfold rowF
    split
    · exact Nat.or_lt_two_pow (hR i hi') (Nat.pow_lt_pow_right (by omega) hi')
    · exact hR i hi'
  · rw [lF_len] at hi hj
    rw [lF_at R f hi,lF_at R f hj,rowF_bit,rowF_bit,hs i j hi hj]
    by_cases e:i=j
    · subst e;rfl
    · rw [decide_eq_false e,decide_eq_false (Ne.symm e)];simp
  · rw [lF_len] at hi
    rw [lF_at R f hi,rowF_bit,hl i hi,wOf_bit,decide_eq_true hi];simp
end Go.Proofs.Ytoobofnpdiapgaa.Bo
namespace Go.Proofs.Ytoobofnpdiapgaa.Lw
set_option linter.unusedVariables false
set_option linter.unusedSimpArgs false
open Go.RowKit Go.Proofs.YtoobofnpdiapgaaW.PrintWords Go.Proofs.YtoobofnpdiapgaaW.PrintLast Go.Proofs.YtoobofnpdiapgaaW.PrintMore
theorem wrap_id {x:Int} (h0:-9223372036854775808≤x) (h:x< 9223372036854775808):wrap64 x=x:=by unfold wrap64;omega
theorem rd_nat (l:List Int) (i:Nat):rd l (i:Int)=l.getD i 0:=by simp [rd]
end Go.Proofs.Ytoobofnpdiapgaa.Lw
namespace Go.Proofs.Ytoobofnpdiapgaa.Gr
open Go.RowKit Go.Proofs.Ytoobofnpdiapgaa.P Go.Proofs.Ytoobofnpdiapgaa.Bt Go.Proofs.Ytoobofnpdiapgaa.Lw Go.Proofs.YtoobofnpdiapgaaW.PrintWords Go.Proofs.YtoobofnpdiapgaaW.PrintLast Go.Proofs.YtoobofnpdiapgaaW.PrintMore
set_option linter.unusedVariables false
set_option linter.unusedSimpArgs false
theorem Ev.succ {α:Type} {f g:Nat→Option α} {r:α} (h:Ev g r) (K:Nat) (hs:∀ k,K≤k→f (k+1)=g k):Ev f r:=by
  obtain ⟨K1,h1⟩:=h
  refine ⟨K+K1+1,fun k hk=>?_⟩
  obtain ⟨k,rfl⟩:∃ m,k=m+1:=⟨k - 1,by omega⟩
  rw [hs k (by omega)]
  exact h1 k (by omega)
theorem Ev.konst {α:Type} {f:Nat→Option α} {r:α} (K:Nat) (hs:∀ k,K≤k→f k=some r):Ev f r:=⟨K,hs⟩
/-- The neighbours of i, as a natural number. -/
def nr (l:List Int) (i:Nat):Nat:=(l.getD i 0).toNat
/-- No loop, and whoever is a neighbour has one. -/
def OkE (l:List Int) (i j:Nat):Prop:=(nr l i).testBit j=true→i≠j∧(nr l j).testBit i=true
def Rng (l:List Int):Prop:=∀ i,i< l.length→0≤l.getD i 0∧l.getD i 0< 2 ^ l.length
def Good (l:List Int):Prop:=1≤l.length∧l.length≤16∧Rng l∧∀ i,i< l.length→∀ j,j< l.length→OkE l i j
theorem pow16 {n:Nat} (h:n≤16):(2:Nat) ^ n≤65536:=Nat.le_trans (Nat.pow_le_pow_right (by omega) h) (by decide)
theorem nr_cast {l:List Int} (h:Rng l) {i:Nat} (hi:i< l.length):l.getD i 0=(nr l i:Int):=by
  have:=(h i hi).1
  unfold nr;omega
theorem nr_lt {l:List Int} (h:Rng l) {i:Nat} (hi:i< l.length):nr l i< 2 ^ l.length:=by
  have:=h i hi
  have e:((2 ^ l.length:Nat):Int)=(2:Int) ^ l.length:=by simp
  unfold nr;omega
theorem nr_small {l:List Int} (hl:l.length≤16) (h:Rng l) {i:Nat} (hi:i< l.length):nr l i< 65536:=Nat.lt_of_lt_of_le (nr_lt h hi) (pow16 hl)
theorem grIn_nat (s i:Nat) (hs:s< 9223372036854775808):spec_grIn.f (s:Int) (i:Int)=some (s.testBit i):=by
  unfold spec_grIn.f;rw [if_pos (by omega),grIn_val hs]
theorem has_nat (s i:Nat) (hs:s< 9223372036854775808):impl_has.f (s:Int) (i:Int)=some (s.testBit i):=by
  unfold impl_has.f;rw [if_pos (by omega),has_val hs]
theorem in_nat (a b c:Int):impl_in.f a b c=some (decide (b≤a) && decide (a≤c)):=by
  unfold impl_in.f
  by_cases h:b≤a
  · rw [if_pos h];simp [h]
  · rw [if_neg h];simp [h]
theorem shl1 {n:Nat} (h:n≤16):wrap64 (shl .i64 1 (n:Int) - 1)=((2 ^ n - 1:Nat):Int):=by
  have h2:=pow16 h
  have h3:=Nat.two_pow_pos n
  rw [show (1:Int)=((1:Nat):Int) from rfl,shl_nat (by omega) (by omega),Nat.shiftLeft_eq,Nat.one_mul,Bt.wrap_id (by omega) (by omega)]
  omega
theorem whole_nat {n:Nat} (h:n≤16):impl_whole.f (n:Int)=some ((2 ^ n - 1:Nat):Int):=by
  unfold impl_whole.f
  rw [if_pos (by omega),shl1 h]
theorem step1 {i:Nat} (h:i≤1000):wrap64 ((i:Int)+1)=((i+1:Nat):Int):=by rw [Bt.wrap_id (by omega) (by omega)];omega
end Go.Proofs.Ytoobofnpdiapgaa.Gr
namespace Go.Proofs.Ytoobofnpdiapgaa.Gr
open Go.RowKit Go.Proofs.Ytoobofnpdiapgaa.P Go.Proofs.Ytoobofnpdiapgaa.Bt Go.Proofs.Ytoobofnpdiapgaa.Lw Go.Proofs.YtoobofnpdiapgaaW.PrintWords Go.Proofs.YtoobofnpdiapgaaW.PrintLast Go.Proofs.YtoobofnpdiapgaaW.PrintMore
set_option linter.unusedVariables false
set_option linter.unusedSimpArgs false
/-- The program's side: the ranges are asked one by one, and each pair once. -/
def Im (l:List Int) (i:Nat):Prop:=0≤l.getD i 0∧l.getD i 0< 2 ^ l.length∧(nr l i).testBit i=false∧∀ j,j< i→(nr l i).testBit j=(nr l j).testBit i
theorem isGraph_l0 (l:List Int) (own:Bool) (hl:l.length≤16):∀ (d i:Nat),l.length - i=d→i≤l.length→(∀ i',i'< i→0≤l.getD i' 0∧l.getD i' 0< 2 ^ l.length)→
    ∃ b:Bool,Ev (fun k=>impl_isGraph.l0 k (l.length:Int) l (l.length:Int) (i:Int) l own) b∧(b=true↔∀ i',i≤i'→i'< l.length→Im l i'):=by
  have hp:=pow16 hl
  have ep:((2 ^ l.length:Nat):Int)=(2:Int) ^ l.length:=by simp
  have hp0:=Nat.two_pow_pos l.length
  intro d
  induction d with
  |zero=>
    intro i hd hi _
    refine ⟨true,Ev.konst 1 fun k hk=>?_,⟨fun _ i' h1 h2=>by omega,fun _=>rfl⟩⟩
    obtain ⟨k,rfl⟩:∃ m,k=m+1:=⟨k - 1,by omega⟩
    rw [impl_isGraph.l0,if_neg (by omega)]
  |succ d ih=>
    intro i hd hi hpre
    by_cases hri:0≤l.getD i 0∧l.getD i 0< 2 ^ l.length
    · obtain ⟨b0,e0,h0⟩:=ih (i+1) (by omega) (by omega) (fun i' h=>by
        by_cases e:i'=i
        · subst e;exact hri
        · exact hpre i' (by omega))
      have hcast:∀ j,j≤i→rd l (j:Int)=(nr l j:Int)∧nr l j< 65536:=by
        intro j hj
        have:0≤l.getD j 0∧l.getD j 0< 2 ^ l.length:=by
          by_cases e:j=i
          · subst e;exact hri
          · exact hpre j (by omega)
        rw [rd_nat]
        unfold nr
        omega
      obtain ⟨hc,hs⟩:=hcast i (Nat.le_refl _)
      have hin:impl_in.f (rd l (i:Int)) 0 (((2 ^ l.length - 1:Nat)):Int)=some true:=by
        rw [in_nat,rd_nat]
        congr 1
        simp only [Bool.and_eq_true,decide_eq_true_eq]
        omega
      by_cases hb:(nr l i).testBit i=true
      · refine ⟨false,Ev.konst 2 fun k hk=>?_,⟨fun h=>(by cases h),fun h=>by have:=(h i (Nat.le_refl _) (by omega)).2.2.1;rw [hb] at this;cases this⟩⟩
        obtain ⟨k,rfl⟩:∃ m,k=m+2:=⟨k - 2,by omega⟩
        rw [impl_isGraph.l0,if_pos (by omega),if_pos (by omega),if_pos (by omega),whole_nat hl]
        simp only [Option.bind_some]
        rw [hin]
        simp only [Option.bind_some,if_true]
        rw [hc,has_nat _ _ (by omega),hb]
        simp only [Option.bind_some]
        rw [impl_isGraph.j1,if_pos rfl]
      · have inner:∀ (e j:Nat),i - j=e→j≤i→
            ∃ b:Bool,Ev (fun k=>impl_isGraph.l1 k (l.length:Int) (i:Int) (rd l (i:Int)) l (l.length:Int) (i:Int) (i:Int) (j:Int) l own) b∧(b=true↔(∀ j',j≤j'→j'< i→(nr l i).testBit j'=(nr l j').testBit i)∧b0=true):=by
          intro e
          induction e with
          |zero=>
            intro j hj1 hj2
            refine ⟨b0,Ev.succ e0 0 fun k _=>?_,⟨fun h=>⟨fun j' h1 h2=>by omega,h⟩,fun h=>h.2⟩⟩
            rw [impl_isGraph.l1,if_neg (by omega),step1 (by omega)]
          |succ e ihe=>
            intro j hj1 hj2
            obtain ⟨b1,e1,h1⟩:=ihe (j+1) (by omega) (by omega)
            obtain ⟨hcj,hsj⟩:=hcast j hj2
            have red:∀ k,impl_isGraph.l1 (k+1) (l.length:Int) (i:Int) (rd l (i:Int)) l (l.length:Int) (i:Int) (i:Int) (j:Int) l own=
                if ((nr l i).testBit j !=(nr l j).testBit i)=true then some false else impl_isGraph.l1 k (l.length:Int) (i:Int) (rd l (i:Int)) l (l.length:Int) (i:Int) (i:Int) ((j+1:Nat):Int) l own:=by
              intro k
              have a1:impl_has.f (rd l (i:Int)) (j:Int)=some ((nr l i).testBit j):=by rw [hc,has_nat _ _ (by omega)]
              have a2:impl_has.f (rd l (j:Int)) (i:Int)=some ((nr l j).testBit i):=by rw [hcj,has_nat _ _ (by omega)]
              rw [impl_isGraph.l1,if_pos (by omega),a1]
              simp only [Option.bind_some]
              rw [if_pos (by omega),if_pos (by omega),a2]
              simp only [Option.bind_some]
              rw [step1 (by omega)]
            by_cases hq:(nr l i).testBit j=(nr l j).testBit i
            · refine ⟨b1,Ev.succ e1 0 fun k _=>?_,?_⟩
              · rw [red,if_neg (by simp [hq])]
              · rw [h1]
                constructor
                · rintro ⟨h2,h3⟩
                  refine ⟨fun j' h4 h5=>?_,h3⟩
                  by_cases e:j'=j
                  · subst e;exact hq
                  · exact h2 j' (by omega) h5
                · rintro ⟨h2,h3⟩
                  exact ⟨fun j' h4 h5=>h2 j' (by omega) h5,h3⟩
            · refine ⟨false,Ev.konst 1 fun k hk=>?_,⟨fun h=>(by cases h),fun h=>absurd (h.1 j (Nat.le_refl _) (by omega)) hq⟩⟩
              obtain ⟨k,rfl⟩:∃ m,k=m+1:=⟨k - 1,by omega⟩
              rw [red,if_pos (by simp [hq])]
        obtain ⟨b,eb,hbb⟩:=inner i 0 (by omega) (by omega)
        have eb2:Ev (fun k=>impl_isGraph.j1 k (l.length:Int) (i:Int) (rd l (i:Int)) l (l.length:Int) (i:Int) false l own) b:=Ev.succ eb 0 fun k _=>by
          rw [impl_isGraph.j1,if_neg (by simp)]
          rfl
        refine ⟨b,Ev.succ eb2 0 fun k _=>?_,?_⟩
        · have a1:impl_has.f (rd l (i:Int)) (i:Int)=some false:=by rw [hc,has_nat _ _ (by omega),Bool.eq_false_iff.mpr hb]
          rw [impl_isGraph.l0,if_pos (by omega),if_pos (by omega),if_pos (by omega),whole_nat hl]
          simp only [Option.bind_some]
          rw [hin]
          simp only [Option.bind_some,if_true]
          rw [a1]
          rfl
        · rw [hbb,h0]
          constructor
          · rintro ⟨h1,h2⟩ i' h3 h4
            by_cases e:i'=i
            · subst e;exact ⟨hri.1,hri.2,Bool.eq_false_iff.mpr hb,fun j hj=>h1 j (Nat.zero_le _) hj⟩
            · exact h2 i' (by omega) h4
          · intro h
            exact ⟨fun j' _ h2=>(h i (Nat.le_refl _) (by omega)).2.2.2 j' h2,fun i' h1 h2=>h i' (by omega) h2⟩
    · refine ⟨false,Ev.konst 2 fun k hk=>?_,⟨fun h=>(by cases h),fun h=>absurd ⟨(h i (Nat.le_refl _) (by omega)).1,(h i (Nat.le_refl _) (by omega)).2.1⟩ hri⟩⟩
      obtain ⟨k,rfl⟩:∃ m,k=m+2:=⟨k - 2,by omega⟩
      have hin:impl_in.f (rd l (i:Int)) 0 (((2 ^ l.length - 1:Nat)):Int)=some false:=by
        rw [in_nat,rd_nat]
        congr 1
        rw [Bool.eq_false_iff]
        simp only [ne_eq,Bool.and_eq_true,decide_eq_true_eq]
        omega
      rw [impl_isGraph.l0,if_pos (by omega),if_pos (by omega),if_pos (by omega),whole_nat hl]
      simp only [Option.bind_some]
      rw [hin]
      simp only [Option.bind_some]
      rw [if_neg (by simp),impl_isGraph.j1,if_pos rfl]
theorem size_impl (l:List Int):impl_isCount.f (l.length:Int)=some (decide (1≤(l.length:Int)) && decide ((l.length:Int)≤16)):=by
  unfold impl_isCount.f;rw [in_nat];rfl
/-- The program says of a list whether it is a graph. -/
theorem good_impl (l:List Int) (own:Bool):∃ b:Bool,(b=true↔Good l)∧Ev (fun k=>impl_isGraph.f k l own) b:=by
  by_cases c:(decide (1≤(l.length:Int)) && decide ((l.length:Int)≤16))=true
  · have hc:=c
    simp only [Bool.and_eq_true,decide_eq_true_eq] at hc
    have hl:l.length≤16:=by omega
    obtain ⟨b2,e2,h2⟩:=isGraph_l0 l own hl l.length 0 (by omega) (by omega) (fun i' h=>by omega)
    refine ⟨b2,?_,?_⟩
    · rw [h2]
      constructor
      · intro h
        have hr:Rng l:=fun i hi=>⟨(h i (Nat.zero_le _) hi).1,(h i (Nat.zero_le _) hi).2.1⟩
        refine ⟨by omega,hl,hr,fun i hi j hj hb=>?_⟩
        have h3:=(h i (Nat.zero_le _) hi).2.2
        have h4:=(h j (Nat.zero_le _) hj).2.2
        have hne:i≠j:=fun e=>by subst e;rw [h3.1] at hb;cases hb
        refine ⟨hne,?_⟩
        rcases Nat.lt_or_ge i j with h5|h5
        · rw [h4.2 i h5];exact hb
        · rw [← h3.2 j (by omega)];exact hb
      · rintro ⟨g1,g2,g3,g4⟩ i _ hi
        refine ⟨(g3 i hi).1,(g3 i hi).2,?_,fun j hj=>?_⟩
        · rw [Bool.eq_false_iff];intro hb;exact (g4 i hi i hi hb).1 rfl
        · rw [Bool.eq_iff_iff]
          exact ⟨fun hb=>(g4 i hi j (by omega) hb).2,fun hb=>(g4 j (by omega) i hi hb).2⟩
    · obtain ⟨K,h⟩:=e2
      refine ⟨K,fun k hk=>?_⟩
      show impl_isGraph.f k l own=_
      unfold impl_isGraph.f
      rw [size_impl,c]
      exact h k hk
  · refine ⟨false,⟨fun h=>(by cases h),fun h=>absurd (by simp only [Bool.and_eq_true,decide_eq_true_eq];have:=h.1;have:=h.2.1;omega) c⟩,⟨0,fun k _=>?_⟩⟩
    show impl_isGraph.f k l own=_
    unfold impl_isGraph.f
    rw [size_impl,Bool.eq_false_iff.mpr c]
    rfl
end Go.Proofs.Ytoobofnpdiapgaa.Gr
namespace Go.Proofs.Ytoobofnpdiapgaa.Lw
open Go.RowKit Go.Proofs.Ytoobofnpdiapgaa.P Go.Proofs.YtoobofnpdiapgaaW.PrintWords Go.Proofs.YtoobofnpdiapgaaW.PrintLast Go.Proofs.YtoobofnpdiapgaaW.PrintMore
set_option linter.unusedVariables false
set_option linter.unusedSimpArgs false
theorem l1In_val (a b c:Int):spec_l1In.f a b c=some (decide (b≤a) && decide (a≤c)):=by
  unfold spec_l1In.f
  by_cases h:b≤a
  · rw [if_pos h];simp [h]
  · rw [if_neg h];simp [h]
theorem all_step (p:Int→Bool) (l:List Int) (i:Nat) (h:i< l.length):(l.drop i).all p=(p (l.getD i 0) && (l.drop (i+1)).all p):=by
  rw [List.drop_eq_getElem_cons h,List.all_cons,List.getD_eq_getElem?_getD,List.getElem?_eq_getElem h]
  rfl
theorem l1All_l0 (l:List Int) (lo hi:Int) (hl:l.length≤4611686018427387904):∀ (d i k:Nat),l.length - i=d→i≤l.length→d< k→
    spec_l1All.l0 k lo hi l (l.length:Int) (i:Int)=some ((l.drop i).all fun x=>decide (lo≤x) && decide (x≤hi)):=by
  intro d
  induction d with
  |zero=>
    intro i k hd hi' hk
    obtain ⟨k,rfl⟩:∃ m,k=m+1:=⟨k - 1,by omega⟩
    have:i=l.length:=by omega
    subst this
    rw [spec_l1All.l0,if_neg (by omega)]
    simp
  |succ d ih=>
    intro i k hd hi' hk
    obtain ⟨k,rfl⟩:∃ m,k=m+1:=⟨k - 1,by omega⟩
    rw [spec_l1All.l0,if_pos (by omega),if_pos (by omega),if_pos (by omega),l1In_val,rd_nat,all_step _ l i (by omega)]
    simp only [Option.bind_some]
    cases hq:(decide (lo≤l.getD i 0) && decide (l.getD i 0≤hi)) with
    |true=>
      rw [if_pos rfl,wrap_id (by omega) (by omega),show ((i:Int)+1)=((i+1:Nat):Int) from by omega,Bool.true_and]
      exact ih (i+1) k (by omega) (by omega) (by omega)
    |false=>rw [if_neg (by simp),Bool.false_and]
theorem l1All_at (l:List Int) (lo hi:Int) (hl:l.length≤4611686018427387904) (k:Nat) (hk:l.length< k):spec_l1All.f k l lo hi=some (l.all fun x=>decide (lo≤x) && decide (x≤hi)):=by
  unfold spec_l1All.f
  have:=l1All_l0 l lo hi hl l.length 0 k (by omega) (by omega) hk
  simpa using this
end Go.Proofs.Ytoobofnpdiapgaa.Lw
namespace Go.Proofs.Ytoobofnpdiapgaa.Gr
open Go.RowKit Go.Proofs.Ytoobofnpdiapgaa.P Go.Proofs.Ytoobofnpdiapgaa.Bt Go.Proofs.Ytoobofnpdiapgaa.Lw Go.Proofs.YtoobofnpdiapgaaW.PrintWords Go.Proofs.YtoobofnpdiapgaaW.PrintLast Go.Proofs.YtoobofnpdiapgaaW.PrintMore
set_option linter.unusedVariables false
set_option linter.unusedSimpArgs false
section
variable (l:List Int) (own:Bool) (hl:l.length≤16) (hr:Rng l)
include hl hr
theorem grGood_l0:∀ (d i:Nat),l.length - i=d→i≤l.length→
    ∃ b:Bool,Ev (fun k=>spec_grGood.l0 k l (l.length:Int) (i:Int) l own) b∧(b=true↔∀ i',i≤i'→i'< l.length→∀ j,j< l.length→OkE l i' j):=by
  intro d
  induction d with
  |zero=>
    intro i hd hi
    refine ⟨true,Ev.konst 1 fun k hk=>?_,⟨fun _ i' h1 h2=>by omega,fun _=>rfl⟩⟩
    obtain ⟨k,rfl⟩:∃ m,k=m+1:=⟨k - 1,by omega⟩
    rw [spec_grGood.l0,if_neg (by omega)]
  |succ d ih=>
    intro i hd hi
    obtain ⟨b0,e0,h0⟩:=ih (i+1) (by omega) (by omega)
    have inner:∀ (e j:Nat),l.length - j=e→j≤l.length→
        ∃ b:Bool,Ev (fun k=>spec_grGood.l1 k (i:Int) (rd l (i:Int)) l (l.length:Int) (i:Int) (l.length:Int) (j:Int) l own) b∧(b=true↔(∀ j',j≤j'→j'< l.length→OkE l i j')∧b0=true):=by
      intro e
      induction e with
      |zero=>
        intro j hj1 hj2
        refine ⟨b0,Ev.succ e0 0 fun k _=>?_,⟨fun h=>⟨fun j' h1 h2=>by omega,h⟩,fun h=>h.2⟩⟩
        rw [spec_grGood.l1,if_neg (by omega),step1 (by omega)]
      |succ e ihe=>
        intro j hj1 hj2
        obtain ⟨b1,e1,h1⟩:=ihe (j+1) (by omega) (by omega)
        have hri:rd l (i:Int)=(nr l i:Int):=by rw [rd_nat];exact nr_cast hr (by omega)
        have hrj:rd l (j:Int)=(nr l j:Int):=by rw [rd_nat];exact nr_cast hr (by omega)
        have hsi:=nr_small hl hr (i:=i) (by omega)
        have hsj:=nr_small hl hr (i:=j) (by omega)
        by_cases hb:(nr l i).testBit j=true
        · by_cases hij:i=j
          · refine ⟨false,Ev.konst 1 fun k hk=>?_,⟨fun h=>(by cases h),fun h=>absurd hij (h.1 j (Nat.le_refl _) (by omega) hb).1⟩⟩
            obtain ⟨k,rfl⟩:∃ m,k=m+1:=⟨k - 1,by omega⟩
            rw [spec_grGood.l1,if_pos (by omega),hri,grIn_nat _ _ (by omega),hb]
            simp only [Option.bind_some,if_true]
            rw [if_pos (by omega)]
          · by_cases hb2:(nr l j).testBit i=true
            · refine ⟨b1,Ev.succ e1 0 fun k _=>?_,?_⟩
              · rw [spec_grGood.l1,if_pos (by omega),hrj,grIn_nat (nr l j) i (by omega),hb2,hri,grIn_nat (nr l i) j (by omega),hb]
                simp only [Option.bind_some,if_true]
                rw [if_neg (by omega),if_pos (by omega),if_pos (by omega),step1 (by omega),← hri]
              · rw [h1]
                constructor
                · rintro ⟨h2,h3⟩
                  refine ⟨fun j' h4 h5=>?_,h3⟩
                  by_cases e:j'=j
                  · subst e;exact fun _=>⟨hij,hb2⟩
                  · exact h2 j' (by omega) h5
                · rintro ⟨h2,h3⟩
                  exact ⟨fun j' h4 h5=>h2 j' (by omega) h5,h3⟩
            · refine ⟨false,Ev.konst 1 fun k hk=>?_,⟨fun h=>(by cases h),fun h=>absurd (h.1 j (Nat.le_refl _) (by omega) hb).2 hb2⟩⟩
              obtain ⟨k,rfl⟩:∃ m,k=m+1:=⟨k - 1,by omega⟩
              rw [spec_grGood.l1,if_pos (by omega),hrj,grIn_nat (nr l j) i (by omega),Bool.eq_false_iff.mpr hb2,hri,grIn_nat (nr l i) j (by omega),hb]
              simp only [Option.bind_some,if_true]
              rw [if_neg (by omega),if_pos (by omega),if_pos (by omega),if_neg (by simp)]
        · refine ⟨b1,Ev.succ e1 0 fun k _=>?_,?_⟩
          · rw [spec_grGood.l1,if_pos (by omega),hri,grIn_nat _ _ (by omega),Bool.eq_false_iff.mpr hb]
            simp only [Option.bind_some]
            rw [if_neg (by simp),step1 (by omega)]
          · rw [h1]
            constructor
            · rintro ⟨h2,h3⟩
              refine ⟨fun j' h4 h5=>?_,h3⟩
              by_cases e:j'=j
              · subst e;exact fun h=>absurd h hb
              · exact h2 j' (by omega) h5
            · rintro ⟨h2,h3⟩
              exact ⟨fun j' h4 h5=>h2 j' (by omega) h5,h3⟩
    obtain ⟨b,eb,hb⟩:=inner l.length 0 (by omega) (by omega)
    refine ⟨b,Ev.succ eb 0 fun k _=>?_,?_⟩
    · rw [spec_grGood.l0,if_pos (by omega),if_pos (by omega),if_pos (by omega)]
      rfl
    · rw [hb,h0]
      constructor
      · rintro ⟨h1,h2⟩ i' h3 h4 j h5
        by_cases e:i'=i
        · subst e;exact h1 j (Nat.zero_le _) h5
        · exact h2 i' (by omega) h4 j h5
      · intro h
        exact ⟨fun j' _ h2=>h i (Nat.le_refl _) (by omega) j' h2,fun i' h1 h2=>h i' (by omega) h2⟩
end
theorem size_spec (l:List Int):spec_grSize.f (l.length:Int)=some (decide (1≤(l.length:Int)) && decide ((l.length:Int)≤16)):=by
  unfold spec_grSize.f;rw [l1In_val];rfl
/-- Both say of a list whether it is a graph's. -/
theorem good_both (l:List Int) (own:Bool) (hlen:l.length≤4611686018427387904):∃ b:Bool,(b=true↔Good l)∧Ev (fun k=>spec_grGood.f k l own) b∧Ev (fun k=>impl_isGraph.f k l own) b:=by
  by_cases c:(decide (1≤(l.length:Int)) && decide ((l.length:Int)≤16))=true
  · have hc:=c
    simp only [Bool.and_eq_true,decide_eq_true_eq] at hc
    have hl:l.length≤16:=by omega
    obtain ⟨b2,e2,h2⟩:=isGraph_l0 l own hl l.length 0 (by omega) (by omega) (fun i' h=>by omega)
    have hp0:=Nat.two_pow_pos l.length
    have ep:((2 ^ l.length:Nat):Int)=(2:Int) ^ l.length:=by simp
    have i2:Ev (fun k=>impl_isGraph.f k l own) b2:=by
      obtain ⟨K,h⟩:=e2
      refine ⟨K,fun k hk=>?_⟩
      show impl_isGraph.f k l own=_
      unfold impl_isGraph.f
      rw [size_impl,c]
      exact h k hk
    have hI:b2=true↔Good l:=by
      rw [h2]
      constructor
      · intro h
        have hr:Rng l:=fun i hi=>⟨(h i (Nat.zero_le _) hi).1,(h i (Nat.zero_le _) hi).2.1⟩
        refine ⟨by omega,hl,hr,fun i hi j hj hb=>?_⟩
        have h3:=(h i (Nat.zero_le _) hi).2.2
        have h4:=(h j (Nat.zero_le _) hj).2.2
        have hne:i≠j:=fun e=>by subst e;rw [h3.1] at hb;cases hb
        refine ⟨hne,?_⟩
        rcases Nat.lt_or_ge i j with h5|h5
        · rw [h4.2 i h5];exact hb
        · rw [← h3.2 j (by omega)];exact hb
      · rintro ⟨g1,g2,g3,g4⟩ i _ hi
        refine ⟨(g3 i hi).1,(g3 i hi).2,?_,fun j hj=>?_⟩
        · rw [Bool.eq_false_iff];intro hb;exact (g4 i hi i hi hb).1 rfl
        · rw [Bool.eq_iff_iff]
          exact ⟨fun hb=>(g4 i hi j (by omega) hb).2,fun hb=>(g4 j (by omega) i hi hb).2⟩
    have hall:=l1All_at l 0 ((2 ^ l.length - 1:Nat):Int) hlen
    by_cases a:(l.all fun x=>decide (0≤x) && decide (x≤((2 ^ l.length - 1:Nat):Int)))=true
    · have hr:Rng l:=by
        intro i hi
        simp only [List.all_eq_true,Bool.and_eq_true,decide_eq_true_eq] at a
        have:=a (l.getD i 0) (by rw [List.getD_eq_getElem?_getD,List.getElem?_eq_getElem hi];exact List.getElem_mem _)
        omega
      obtain ⟨b1,e1,h1⟩:=grGood_l0 l own hl hr l.length 0 (by omega) (by omega)
      have hS:b1=true↔Good l:=by
        rw [h1]
        exact ⟨fun h=>⟨by omega,hl,hr,fun i hi j hj=>h i (Nat.zero_le _) hi j hj⟩,fun h i _ hi j hj=>h.2.2.2 i hi j hj⟩
      have e:b1=b2:=by rw [Bool.eq_iff_iff,hS,hI]
      subst e
      refine ⟨b1,hS,?_,i2⟩
      have e1':Ev (fun k=>spec_grGood.j0 k false l own) b1:=Ev.succ e1 0 fun k _=>by
        rw [spec_grGood.j0,if_neg (by simp)]
        rfl
      obtain ⟨K,h⟩:=e1'
      refine ⟨K+l.length+1,fun k hk=>?_⟩
      show spec_grGood.f k l own=_
      unfold spec_grGood.f
      rw [size_spec,c,shl1 hl]
      simp only [Option.bind_some,if_true]
      rw [hall k (by omega),a]
      simp only [Option.bind_some,Bool.not_true]
      exact h k (by omega)
    · refine ⟨b2,hI,?_,i2⟩
      have hn:¬ Good l:=by
        rintro ⟨_,_,g3,_⟩
        apply a
        simp only [List.all_eq_true,Bool.and_eq_true,decide_eq_true_eq]
        intro x hx
        obtain ⟨i,hi,rfl⟩:=List.getElem_of_mem hx
        have:=g3 i hi
        rw [List.getD_eq_getElem?_getD,List.getElem?_eq_getElem hi] at this
        simp only [Option.getD_some] at this
        omega
      have:b2=false:=by rw [Bool.eq_false_iff];exact fun h=>hn (hI.1 h)
      subst this
      refine ⟨l.length+2,fun k hk=>?_⟩
      obtain ⟨k,rfl⟩:∃ m,k=m+1:=⟨k - 1,by omega⟩
      show spec_grGood.f (k+1) l own=_
      unfold spec_grGood.f
      rw [size_spec,c,shl1 hl]
      simp only [Option.bind_some,if_true]
      rw [hall (k+1) (by omega),Bool.eq_false_iff.mpr a]
      simp only [Option.bind_some,Bool.not_false]
      rw [spec_grGood.j0,if_pos rfl]
  · refine ⟨false,⟨fun h=>(by cases h),fun h=>absurd (by simp only [Bool.and_eq_true,decide_eq_true_eq];have:=h.1;have:=h.2.1;omega) c⟩,⟨1,fun k hk=>?_⟩,⟨0,fun k _=>?_⟩⟩
    · obtain ⟨k,rfl⟩:∃ m,k=m+1:=⟨k - 1,by omega⟩
      show spec_grGood.f (k+1) l own=_
      unfold spec_grGood.f
      rw [size_spec,Bool.eq_false_iff.mpr c]
      simp only [Option.bind_some]
      rw [if_neg (by simp),spec_grGood.j0,if_pos rfl]
    · show impl_isGraph.f k l own=_
      unfold impl_isGraph.f
      rw [size_impl,Bool.eq_false_iff.mpr c]
      rfl
end Go.Proofs.Ytoobofnpdiapgaa.Gr
namespace Go.Proofs.Ytoobofnpdiapgaa.Gr
open Go.RowKit Go.Proofs.Ytoobofnpdiapgaa.P Go.Proofs.Ytoobofnpdiapgaa.Bt Go.Proofs.Ytoobofnpdiapgaa.Lw Go.Proofs.YtoobofnpdiapgaaW.PrintWords Go.Proofs.YtoobofnpdiapgaaW.PrintLast Go.Proofs.YtoobofnpdiapgaaW.PrintMore
set_option linter.unusedVariables false
set_option linter.unusedSimpArgs false
theorem u64_id {x:Int} (h0:0≤x) (h:x< 18446744073709551616):IntKind.u64.wrap x=x:=by rw [IntKind.wrap_u64];omega
theorem ofInt_nat' {a:Nat} (h:a< 18446744073709551616):(BitVec.ofInt 64 (a:Int)).toNat=a:=by
  rw [BitVec.toNat_ofInt];omega
theorem and_u64 {a b:Nat} (ha:a< 18446744073709551616) (hb:b< 18446744073709551616):Go.bits .and .u64 (a:Int) (b:Int)=((a &&& b:Nat):Int):=by
  have h:a &&& b≤a:=Nat.and_le_left
  show IntKind.u64.wrap ((BitVec.ofInt 64 (a:Int) &&& BitVec.ofInt 64 (b:Int)).toNat:Int)=_
  rw [BitVec.toNat_and,ofInt_nat' ha,ofInt_nat' hb,u64_id (by omega) (by omega)]
theorem onesCount_at {n:Nat} (hn:n< 65536):bits_OnesCount64.f (n:Int)=some ((pc n:Nat):Int):=by
  rw [← trick_at hn]
  have hA:(n / 2 &&& 6148914691236517205)+(n &&& 6148914691236517205)≤100000:=by
    have h1:n / 2 &&& 6148914691236517205≤n / 2:=Nat.and_le_left
    have h2:n &&& 6148914691236517205≤n:=Nat.and_le_left
    omega
  unfold bits_OnesCount64.f
  have e1:IntKind.u64.wrap ((Go.bits .and .u64 ((n:Int) / 2) 6148914691236517205)+(Go.bits .and .u64 (n:Int) 6148914691236517205))=(((n / 2 &&& 6148914691236517205)+(n &&& 6148914691236517205):Nat):Int):=by
    rw [show (n:Int) / 2=((n / 2:Nat):Int) from by omega,show (6148914691236517205:Int)=((6148914691236517205:Nat):Int) from rfl,and_u64 (by omega) (by omega),and_u64 (by omega) (by omega),u64_id (by omega) (by omega)]
    omega
  rw [e1]
  unfold trick
  generalize (n / 2 &&& 6148914691236517205)+(n &&& 6148914691236517205)=a at hA ⊢
  have hB:(a / 4 &&& 3689348814741910323)+(a &&& 3689348814741910323)≤200000:=by
    have h1:a / 4 &&& 3689348814741910323≤a / 4:=Nat.and_le_left
    have h2:a &&& 3689348814741910323≤a:=Nat.and_le_left
    omega
  have e2:IntKind.u64.wrap ((Go.bits .and .u64 ((a:Int) / 4) 3689348814741910323)+(Go.bits .and .u64 (a:Int) 3689348814741910323))=(((a / 4 &&& 3689348814741910323)+(a &&& 3689348814741910323):Nat):Int):=by
    rw [show (a:Int) / 4=((a / 4:Nat):Int) from by omega,show (3689348814741910323:Int)=((3689348814741910323:Nat):Int) from rfl,and_u64 (by omega) (by omega),and_u64 (by omega) (by omega),u64_id (by omega) (by omega)]
    omega
  simp only [e2]
  generalize (a / 4 &&& 3689348814741910323)+(a &&& 3689348814741910323)=b at hB ⊢
  have hC:(b / 16+b) &&& 1085102592571150095≤300000:=by
    have h1:(b / 16+b) &&& 1085102592571150095≤b / 16+b:=Nat.and_le_left
    omega
  have e3:Go.bits .and .u64 (IntKind.u64.wrap ((b:Int) / 16+(b:Int))) 1085102592571150095=(((b / 16+b) &&& 1085102592571150095:Nat):Int):=by
    rw [show (b:Int) / 16+(b:Int)=((b / 16+b:Nat):Int) from by omega,u64_id (by omega) (by omega),show (1085102592571150095:Int)=((1085102592571150095:Nat):Int) from rfl,and_u64 (by omega) (by omega)]
  simp only [e3]
  generalize (b / 16+b) &&& 1085102592571150095=c at hC ⊢
  have e4:IntKind.u64.wrap ((c:Int)+(c:Int) / 256)=((c+c / 256:Nat):Int):=by rw [u64_id (by omega) (by omega)];omega
  simp only [e4]
  have hD:c+c / 256≤400000:=by omega
  generalize c+c / 256=d at hD ⊢
  have e5:IntKind.u64.wrap ((d:Int)+(d:Int) / 65536)=((d+d / 65536:Nat):Int):=by rw [u64_id (by omega) (by omega)];omega
  simp only [e5]
  have hE:d+d / 65536≤500000:=by omega
  generalize d+d / 65536=e at hE ⊢
  have e6:IntKind.u64.wrap ((e:Int)+(e:Int) / 4294967296)=((e+e / 4294967296:Nat):Int):=by rw [u64_id (by omega) (by omega)];omega
  simp only [e6]
  rw [wrap_nat (by omega),show (127:Int)=((127:Nat):Int) from rfl,bits_and (by omega) (by omega)]
theorem count_at {n:Nat} (hn:n< 65536):impl_count.f (n:Int)=some ((pc n:Nat):Int):=by
  unfold impl_count.f bits_OnesCount.f
  rw [u64_id (by omega) (by omega),onesCount_at hn]
  rfl
theorem grCount_l0:∀ (f n:Nat) (c:Nat) (k:Nat),n< 2 ^ f→f≤16→c+f≤100→f< k→spec_grCount.l0 k (n:Int) (c:Int)=some ((c+Go.Lib.popAux f n:Nat):Int):=by
  intro f
  induction f with
  |zero=>
    intro n c k hn _ _ hk
    obtain ⟨k,rfl⟩:∃ m,k=m+1:=⟨k - 1,by omega⟩
    have:n=0:=by omega
    subst this
    rw [spec_grCount.l0,if_neg (by omega)]
    simp [Go.Lib.popAux]
  |succ f ih=>
    intro n c k hn hf hc hk
    obtain ⟨k,rfl⟩:∃ m,k=m+1:=⟨k - 1,by omega⟩
    have h16:=pow16 hf
    by_cases h0:n=0
    · subst h0
      have z:∀ g,Go.Lib.popAux g 0=0:=fun g=>by induction g with
        |zero=>rfl
        |succ g ih=>rw [Go.Lib.popAux];simp [ih]
      rw [spec_grCount.l0,if_neg (by omega),z]
      simp
    · rw [spec_grCount.l0,if_pos (by omega),tdiv_two,tmod_two,wrap_nat (by omega),show (c:Int)+((n % 2:Nat):Int)=((c+n % 2:Nat):Int) from by omega,
        wrap_nat (by omega),ih (n / 2) (c+n % 2) k (by rw [Nat.pow_succ] at hn;omega) (by omega) (by omega) (by omega),Go.Lib.popAux]
      congr 2;omega
theorem grCount_at {n:Nat} (hn:n< 65536) (k:Nat) (hk:16< k):spec_grCount.f k (n:Int)=some ((pc n:Nat):Int):=by
  have:=grCount_l0 16 n 0 k hn (by omega) (by omega) hk
  simpa [spec_grCount.f,pc] using this
end Go.Proofs.Ytoobofnpdiapgaa.Gr
