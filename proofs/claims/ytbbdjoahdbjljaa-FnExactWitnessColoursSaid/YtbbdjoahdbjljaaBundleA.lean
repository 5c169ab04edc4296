/- Polynomials over two elements as natural numbers: sums, products, remainders. Plain Lean, no program. The machine's words on bits, at natural numbers below 2^63. Small words: what stays when it is wrapped, and a row read at a place. Graphs as lists of rows: the words. What the program's 'is it a graph' answers. 'All are from lo to hi.' What 'is it a graph' answers on both sides. What the laws' own helpers answer: comparisons, marks. What the laws' own helpers answer: copies. What the laws' helpers on graphs answer. A graph's copy, and its size. Numbers of colours, and what a button changes. -/
import Derived.Test.YtbbdjoahdbjljaaWk
import Derived.Lib.BitFns
import Derived.Test.YtbbdjoahdbjljaaPx1
import Derived.Test.YtbbdjoahdbjljaaPx2
import Derived.Test.YtbbdjoahdbjljaaPx11
import Derived.Test.YtbbdjoahdbjljaaPx8
namespace Go.Proofs.Ytbbdjoahdbjljaa.Gf
set_option linter.unusedVariables false
set_option linter.unusedSimpArgs false
/-- How many bits a number takes. -/
def bl (n:Nat):Nat:=if n=0 then 0 else n.log2+1
theorem bl_zero:bl 0=0:=rfl
theorem bl_pos {n:Nat} (h:n≠0):bl n=n.log2+1:=by unfold bl;rw [if_neg h]
theorem bl_le_iff {n k:Nat}:bl n≤k↔n< 2 ^ k:=by
  unfold bl
  by_cases h:n=0
  · subst h;simp [Nat.two_pow_pos]
  · rw [if_neg h]
    have:=Nat.log2_lt (k:=k) h
    omega
theorem lt_bl (n:Nat):n< 2 ^ bl n:=bl_le_iff.1 (Nat.le_refl _)
theorem bl_eq_zero {n:Nat}:bl n=0↔n=0:=by
  unfold bl;split<;>simp_all
theorem bl_half {n:Nat} (h:n≠0):bl n=bl (n / 2)+1:=by
  have key:∀ k,bl n≤k+1↔bl (n / 2)≤k:=by
    intro k
    rw [bl_le_iff,bl_le_iff,Nat.pow_succ]
    omega
  have h1:=(key (bl (n / 2))).2 (Nat.le_refl _)
  have h2:bl n≠0:=fun e=>h (bl_eq_zero.1 e)
  have h3:=(key (bl n - 1)).1 (by omega)
  omega
theorem top_bit {n:Nat} (h:n≠0):n.testBit (bl n - 1)=true:=by
  rw [bl_pos h];simpa using Nat.testBit_log2 h
theorem above {n i:Nat} (h:bl n≤i):n.testBit i=false:=Nat.testBit_lt_two_pow (bl_le_iff.1 h)
theorem bl_ge {n i:Nat} (h:n.testBit i=true):i< bl n:=by
  rcases Nat.lt_or_ge i (bl n) with h'|h'
  · exact h'
  · rw [above h'] at h;cases h
theorem bl_xor_le (a b k:Nat) (ha:bl a≤k) (hb:bl b≤k):bl (a ^^^ b)≤k:=
  bl_le_iff.2 (Nat.xor_lt_two_pow (bl_le_iff.1 ha) (bl_le_iff.1 hb))
theorem bl_shift {n:Nat} (h:n≠0) (k:Nat):bl (n<<< k)=bl n+k:=by
  have key:∀ j,bl (n<<< k)≤j+k↔bl n≤j:=by
    intro j
    rw [bl_le_iff,bl_le_iff,Nat.shiftLeft_eq,Nat.pow_add]
    exact ⟨fun h=>Nat.lt_of_mul_lt_mul_right h,fun h=>Nat.mul_lt_mul_of_pos_right h (Nat.two_pow_pos k)⟩
  have h1:=(key (bl n)).2 (Nat.le_refl _)
  have hne:n<<< k≠0:=by rw [Ne,Nat.shiftLeft_eq_zero_iff];exact h
  have h3:bl n≠0:=fun e=>h (bl_eq_zero.1 e)
  have h2:k≤bl (n<<< k):=by
    have hb:(n<<< k).testBit (bl n - 1+k)=true:=by
      rw [Nat.testBit_shiftLeft];simp [top_bit h]
    have:=bl_ge hb
    omega
  have:=(key (bl (n<<< k) - k)).1 (by omega)
  omega
/-- Two numbers with one top: their sum lies below. -/
theorem bl_xor_lt {a b:Nat} (ha:a≠0) (h:bl a=bl b):bl (a ^^^ b)< bl a:=by
  have hb:b≠0:=fun e=>by subst e;rw [bl_zero] at h;exact ha (bl_eq_zero.1 h)
  have hp:0< bl a:=Nat.pos_of_ne_zero (fun e=>ha (bl_eq_zero.1 e))
  have:bl (a ^^^ b)≤bl a - 1:=by
    rw [bl_le_iff]
    refine Nat.lt_pow_two_of_testBit _ fun i hi=>?_
    rw [Nat.testBit_xor]
    by_cases e:i=bl a - 1
    · subst e;rw [top_bit ha,h,top_bit hb];rfl
    · rw [above (n:=a) (by omega),above (n:=b) (by omega)];rfl
  omega
theorem bl_xor_ne {a b:Nat} (h:bl b< bl a):bl (a ^^^ b)=bl a:=by
  have ha:a≠0:=fun e=>by subst e;rw [bl_zero] at h;omega
  have h1:bl (a ^^^ b)≤bl a:=bl_xor_le _ _ _ (Nat.le_refl _) (by omega)
  have h2:(a ^^^ b).testBit (bl a - 1)=true:=by
    rw [Nat.testBit_xor,top_bit ha,above (n:=b) (by omega)];rfl
  have:=bl_ge h2
  omega
/-- The product. -/
def mul (a:Nat) (b:Nat):Nat:=if b=0 then 0 else (if b % 2=1 then a else 0) ^^^ (2*mul a (b / 2))
decreasing_by omega
theorem mul_zero (a:Nat):mul a 0=0:=by rw [mul,if_pos rfl]
theorem mul_step (a b:Nat):mul a b=(if b % 2=1 then a else 0) ^^^ (2*mul a (b / 2)):=by
  by_cases h:b=0
  · subst h;rw [mul_zero];simp [mul_zero]
  · rw [mul,if_neg h]
theorem two_xor (a b:Nat):2*(a ^^^ b)=(2*a) ^^^ (2*b):=by
  have:=@Nat.shiftLeft_xor_distrib 1 a b
  simp only [Nat.shiftLeft_eq,Nat.pow_one] at this
  rw [Nat.mul_comm 2,Nat.mul_comm 2,Nat.mul_comm 2];exact this
theorem ite_xor (c:Prop) [Decidable c] (a b:Nat):(if c then a ^^^ b else 0)=(if c then a else 0) ^^^ (if c then b else 0):=by
  split<;>simp
theorem xor4 (a b c d:Nat):(a ^^^ b) ^^^ (c ^^^ d)=(a ^^^ c) ^^^ (b ^^^ d):=by
  rw [Nat.xor_assoc,Nat.xor_assoc,← Nat.xor_assoc b c d,← Nat.xor_assoc c b d,Nat.xor_comm b c]
theorem zero_mul (b:Nat):mul 0 b=0:=by
  induction b using Nat.strongRecOn with
  |_ b ih=>
    by_cases h:b=0
    · subst h;exact mul_zero 0
    · rw [mul_step,ih (b / 2) (by omega)];simp
theorem mul_xor_left (a c b:Nat):mul (a ^^^ c) b=mul a b ^^^ mul c b:=by
  induction b using Nat.strongRecOn with
  |_ b ih=>
    by_cases h:b=0
    · subst h;simp [mul_zero]
    · rw [mul_step (a ^^^ c),mul_step a,mul_step c,ih (b / 2) (by omega),two_xor,ite_xor,xor4]
theorem mul_two_left (a b:Nat):mul (2*a) b=2*mul a b:=by
  induction b using Nat.strongRecOn with
  |_ b ih=>
    by_cases h:b=0
    · subst h;simp [mul_zero]
    · rw [mul_step (2*a),mul_step a,ih (b / 2) (by omega),two_xor]
      congr 1
      split<;>simp
theorem mul_xor_right (a b c:Nat):mul a (b ^^^ c)=mul a b ^^^ mul a c:=by
  induction b using Nat.strongRecOn generalizing c with
  |_ b ih=>
    by_cases h:b=0
    · subst h;simp [mul_zero]
    · rw [mul_step a (b ^^^ c),mul_step a b,mul_step a c,Nat.xor_div_two,ih (b / 2) (by omega),two_xor,xor4]
      congr 1
      have hx:=@Nat.xor_mod_two_eq_one b c
      by_cases h1:b % 2=1<;>by_cases h2:c % 2=1<;>simp only [h1,h2,if_true,if_false,iff_true,iff_false,not_true,not_false_iff] at hx ⊢
      · rw [if_neg hx];simp
      · rw [if_pos hx];simp
      · rw [if_pos hx];simp
      · rw [if_neg hx];simp
theorem mul_one (a:Nat):mul a 1=a:=by rw [mul_step];simp [mul_zero]
theorem mul_two (a b:Nat):mul a (2*b)=2*mul a b:=by
  rw [mul_step]
  have h1:2*b % 2=0:=by omega
  have h2:2*b / 2=b:=by omega
  rw [h1,h2];simp
/-- A number is its last bit and twice its half. -/
theorem bit_split (a:Nat):a=(a % 2) ^^^ (2*(a / 2)):=by
  apply Nat.eq_of_testBit_eq
  intro i
  rw [Nat.testBit_xor]
  cases i with
  |zero=>
    rw [Nat.testBit_zero,Nat.testBit_zero,Nat.testBit_zero]
    have:2*(a / 2) % 2=0:=by omega
    rw [this]
    simp
  |succ i=>
    rw [Nat.testBit_add_one,Nat.testBit_add_one,Nat.testBit_add_one]
    have h1:a % 2 / 2=0:=by omega
    have h2:2*(a / 2) / 2=a / 2:=by omega
    rw [h1,h2];simp
theorem one_mul (b:Nat):mul 1 b=b:=by
  induction b using Nat.strongRecOn with
  |_ b ih=>
    by_cases h:b=0
    · subst h;exact mul_zero 1
    · rw [mul_step,ih (b / 2) (by omega)]
      conv=>rhs;rw [bit_split b]
      congr 1
      split<;>omega
theorem mul_comm (a b:Nat):mul a b=mul b a:=by
  induction b using Nat.strongRecOn generalizing a with
  |_ b ih=>
    by_cases h:b=0
    · subst h;rw [mul_zero,zero_mul]
    · conv=>rhs;rw [bit_split b]
      rw [mul_xor_left,mul_two_left,mul_step a b,ih (b / 2) (by omega)]
      congr 1
      split
      · rename_i h1;rw [h1,one_mul]
      · have h0:b % 2=0:=by omega
        rw [h0,zero_mul]
theorem mul_assoc (a b c:Nat):mul (mul a b) c=mul a (mul b c):=by
  induction c using Nat.strongRecOn with
  |_ c ih=>
    by_cases h:c=0
    · subst h;simp [mul_zero]
    · rw [mul_step _ c,mul_step b c,mul_xor_right,mul_two,ih (c / 2) (by omega)]
      congr 1
      split<;>simp [mul_zero]
theorem mul_shift (a k:Nat):mul a (1<<< k)=a<<< k:=by
  induction k with
  |zero=>simp [mul_one]
  |succ k ih=>
    have h1:1<<< (k+1)=2*(1<<< k):=by simp [Nat.shiftLeft_eq,Nat.pow_succ];omega
    have h2:a<<< (k+1)=2*(a<<< k):=by
      rw [Nat.shiftLeft_eq,Nat.shiftLeft_eq,Nat.pow_succ,← Nat.mul_assoc,Nat.mul_comm]
    rw [h1,mul_two,ih,h2]
theorem bl_two_mul {a:Nat} (h:a≠0):bl (2*a)=bl a+1:=by
  have:=bl_shift h 1
  rw [Nat.shiftLeft_eq,Nat.pow_one,Nat.mul_comm] at this
  exact this
/-- Degrees add up. -/
theorem bl_mul {a b:Nat} (ha:a≠0) (hb:b≠0):bl (mul a b)+1=bl a+bl b:=by
  induction b using Nat.strongRecOn with
  |_ b ih=>
    rw [mul_step]
    have hA:0< bl a:=Nat.pos_of_ne_zero (fun e=>ha (bl_eq_zero.1 e))
    by_cases h1:b / 2=0
    · have hb1:b=1:=by omega
      subst hb1
      have:bl 1=1:=by rfl
      simp [mul_zero,this]
    · have e:=ih (b / 2) (by omega) h1
      have hbh:=bl_half hb
      have hm:mul a (b / 2)≠0:=by
        intro z;rw [z,bl_zero] at e
        have:0< bl (b / 2):=Nat.pos_of_ne_zero (fun e=>h1 (bl_eq_zero.1 e))
        omega
      have hB:0< bl (b / 2):=Nat.pos_of_ne_zero (fun e=>h1 (bl_eq_zero.1 e))
      have h2:=bl_two_mul hm
      rw [Nat.xor_comm,bl_xor_ne]
      · omega
      · split
        · omega
        · rw [bl_zero];omega
theorem mul_ne_zero {a b:Nat} (ha:a≠0) (hb:b≠0):mul a b≠0:=by
  intro e
  have:=bl_mul ha hb
  rw [e,bl_zero] at this
  have h1:0< bl a:=Nat.pos_of_ne_zero (fun e=>ha (bl_eq_zero.1 e))
  have h2:0< bl b:=Nat.pos_of_ne_zero (fun e=>hb (bl_eq_zero.1 e))
  omega
theorem xor_eq_zero {a b:Nat}:a ^^^ b=0↔a=b:=by
  constructor
  · intro h
    have:(a ^^^ b) ^^^ b=b:=by rw [h];simp
    rwa [Nat.xor_assoc,Nat.xor_self,Nat.xor_zero] at this
  · rintro rfl;exact Nat.xor_self _
theorem xor_cancel (a b:Nat):(a ^^^ b) ^^^ b=a:=by rw [Nat.xor_assoc,Nat.xor_self,Nat.xor_zero]
theorem xor_swap {a b c:Nat} (h:a ^^^ b=c):a=c ^^^ b:=by rw [← h,xor_cancel]
/-- The quotient and the rest. -/
def divMod (p q:Nat):Nat × Nat:=
  if h:q≠0∧bl q≤bl p then
    let r:=divMod (p ^^^ (q<<< (bl p - bl q))) q
    (r.1 ^^^ (1<<< (bl p - bl q)),r.2)
  else (0,p)
termination_by bl p
decreasing_by
  have hp:p≠0:=fun e=>by
    rw [e,bl_zero] at h
    exact h.1 (bl_eq_zero.1 (by omega))
  have:bl (q<<< (bl p - bl q))=bl p:=by rw [bl_shift h.1];omega
  exact bl_xor_lt hp this.symm
theorem divMod_step {p q:Nat} (hq:q≠0) (h:bl q≤bl p):
    divMod p q=((divMod (p ^^^ (q<<< (bl p - bl q))) q).1 ^^^ (1<<< (bl p - bl q)),(divMod (p ^^^ (q<<< (bl p - bl q))) q).2):=by
  rw [divMod,dif_pos ⟨hq,h⟩]
theorem divMod_done {p q:Nat} (h:bl p< bl q):divMod p q=(0,p):=by
  rw [divMod,dif_neg (by omega)]
theorem down_lt {p q:Nat} (hq:q≠0) (h:bl q≤bl p):bl (p ^^^ (q<<< (bl p - bl q)))< bl p:=by
  have hp:p≠0:=fun e=>by
    rw [e,bl_zero] at h
    exact hq (bl_eq_zero.1 (by omega))
  have:bl (q<<< (bl p - bl q))=bl p:=by rw [bl_shift hq];omega
  exact bl_xor_lt hp this.symm
theorem divMod_spec {q:Nat} (hq:q≠0) (p:Nat):mul (divMod p q).1 q ^^^ (divMod p q).2=p∧bl (divMod p q).2< bl q:=by
  generalize hn:bl p=n
  induction n using Nat.strongRecOn generalizing p with
  |_ n ih=>
    by_cases h:bl q≤bl p
    · rw [divMod_step hq h]
      have hlt:=down_lt hq h
      have:=ih _ (by omega) (p ^^^ (q<<< (bl p - bl q))) rfl
      refine ⟨?_,this.2⟩
      show mul (_ ^^^ _) q ^^^ _=p
      rw [mul_xor_left,mul_comm (1<<< _),mul_shift,Nat.xor_assoc,Nat.xor_comm (q<<< _),← Nat.xor_assoc,this.1,xor_cancel]
    · rw [divMod_done (by omega)]
      exact ⟨by simp [zero_mul],by show bl p< bl q;omega⟩
theorem divMod_unique {q:Nat} (hq:q≠0) {p s r:Nat} (h:mul s q ^^^ r=p) (hr:bl r< bl q):divMod p q=(s,r):=by
  obtain ⟨h1,h2⟩:=divMod_spec hq p
  have e:mul ((divMod p q).1 ^^^ s) q=(divMod p q).2 ^^^ r:=by
    rw [mul_xor_left]
    have:=h1.trans h.symm
    have h3:=xor_swap this
    rw [h3,Nat.xor_assoc,Nat.xor_assoc,Nat.xor_comm (mul s q),← Nat.xor_assoc,Nat.xor_comm r]
    rw [Nat.xor_assoc,Nat.xor_assoc,Nat.xor_self,Nat.xor_zero]
  by_cases hs:(divMod p q).1 ^^^ s=0
  · rw [hs,zero_mul] at e
    have e1:=xor_eq_zero.1 hs
    have e2:=xor_eq_zero.1 e.symm
    exact Prod.ext e1 e2
  · have:=bl_mul hs hq
    rw [e] at this
    have h4:bl ((divMod p q).2 ^^^ r)≤bl q - 1:=bl_xor_le _ _ _ (by omega) (by omega)
    have h5:0< bl ((divMod p q).1 ^^^ s):=Nat.pos_of_ne_zero (fun e=>hs (bl_eq_zero.1 e))
    omega
def rest (p q:Nat):Nat:=(divMod p q).2
theorem rest_lt {q:Nat} (hq:q≠0) (p:Nat):bl (rest p q)< bl q:=(divMod_spec hq p).2
theorem rest_xor {q:Nat} (hq:q≠0) (a b:Nat):rest (a ^^^ b) q=rest a q ^^^ rest b q:=by
  obtain ⟨a1,a2⟩:=divMod_spec hq a
  obtain ⟨b1,b2⟩:=divMod_spec hq b
  have:divMod (a ^^^ b) q=((divMod a q).1 ^^^ (divMod b q).1,(divMod a q).2 ^^^ (divMod b q).2):=by
    apply divMod_unique hq
    · rw [mul_xor_left,xor4,a1,b1]
    · have:=bl_xor_le (divMod a q).2 (divMod b q).2 (bl q - 1) (by omega) (by omega)
      omega
  unfold rest;rw [this]
theorem rest_mul_right {q:Nat} (hq:q≠0) (s:Nat):rest (mul s q) q=0:=by
  have:divMod (mul s q) q=(s,0):=divMod_unique hq (by simp) (by rw [bl_zero];exact Nat.pos_of_ne_zero (fun e=>hq (bl_eq_zero.1 e)))
  unfold rest;rw [this]
/-- q divides p. -/
def Dv (q p:Nat):Prop:=∃ s,mul s q=p
theorem Dv.refl (a:Nat):Dv a a:=⟨1,one_mul a⟩
theorem Dv.zero (a:Nat):Dv a 0:=⟨0,zero_mul a⟩
theorem Dv.trans {a b c:Nat} (h:Dv a b) (k:Dv b c):Dv a c:=by
  obtain ⟨s,rfl⟩:=h;obtain ⟨t,rfl⟩:=k
  exact ⟨mul t s,mul_assoc t s a⟩
theorem Dv.xor {a b c:Nat} (h:Dv a b) (k:Dv a c):Dv a (b ^^^ c):=by
  obtain ⟨s,rfl⟩:=h;obtain ⟨t,rfl⟩:=k
  exact ⟨s ^^^ t,mul_xor_left s t a⟩
theorem Dv.mul_left {a b:Nat} (h:Dv a b) (c:Nat):Dv a (mul c b):=by
  obtain ⟨s,rfl⟩:=h
  exact ⟨mul c s,mul_assoc c s a⟩
theorem Dv.bl_le {a b:Nat} (h:Dv a b) (hb:b≠0):bl a≤bl b:=by
  obtain ⟨s,rfl⟩:=h
  have hs:s≠0:=fun e=>hb (by rw [e,zero_mul])
  have ha:a≠0:=fun e=>hb (by rw [e,mul_zero])
  have:=bl_mul hs ha
  have:0< bl s:=Nat.pos_of_ne_zero (fun e=>hs (bl_eq_zero.1 e))
  omega
theorem bl_le_one {a:Nat} (h:bl a≤1):a=0∨a=1:=by
  have:=bl_le_iff.1 h
  omega
/-- The greatest common divisor. -/
def gcd (p q:Nat):Nat:=if h:q=0 then p else gcd q (rest p q)
termination_by bl q
decreasing_by exact rest_lt h p
theorem gcd_zero (p:Nat):gcd p 0=p:=by rw [gcd,dif_pos rfl]
theorem gcd_step {p q:Nat} (h:q≠0):gcd p q=gcd q (rest p q):=by rw [gcd,dif_neg h]
end Go.Proofs.Ytbbdjoahdbjljaa.Gf
namespace Go.Proofs.Ytbbdjoahdbjljaa.Bt
open Go.RowKit Go.Proofs.YtbbdjoahdbjljaaW.PrintWords Go.Proofs.YtbbdjoahdbjljaaW.PrintLast Go.Proofs.YtbbdjoahdbjljaaW.PrintMore
set_option linter.unusedVariables false
set_option linter.unusedSimpArgs false
theorem wrap_id {x:Int} (h0:-9223372036854775808≤x) (h:x< 9223372036854775808):wrap64 x=x:=by unfold wrap64;omega
theorem wrap_nat {n:Nat} (h:n< 9223372036854775808):wrap64 (n:Int)=n:=wrap_id (by omega) (by omega)
theorem ofInt_nat {a:Nat} (h:a< 9223372036854775808):(BitVec.ofInt 64 (a:Int)).toNat=a:=by
  rw [BitVec.toNat_ofInt];omega
theorem bits_or {a b:Nat} (ha:a< 9223372036854775808) (hb:b< 9223372036854775808):Go.bits .or .i64 (a:Int) (b:Int)=((a|||b:Nat):Int):=by
  have h:a|||b< 2 ^ 63:=Nat.or_lt_two_pow (by simpa using ha) (by simpa using hb)
  show IntKind.i64.wrap ((BitVec.ofInt 64 (a:Int)|||BitVec.ofInt 64 (b:Int)).toNat:Int)=_
  rw [BitVec.toNat_or,ofInt_nat ha,ofInt_nat hb,i64_w,wrap_nat (by simpa using h)]
theorem bits_and {a b:Nat} (ha:a< 9223372036854775808) (hb:b< 9223372036854775808):Go.bits .and .i64 (a:Int) (b:Int)=((a &&& b:Nat):Int):=by
  have h:a &&& b< 2 ^ 63:=Nat.and_lt_two_pow _ (by simpa using hb)
  show IntKind.i64.wrap ((BitVec.ofInt 64 (a:Int) &&& BitVec.ofInt 64 (b:Int)).toNat:Int)=_
  rw [BitVec.toNat_and,ofInt_nat ha,ofInt_nat hb,i64_w,wrap_nat (by simpa using h)]
theorem shl_nat {a n:Nat} (hn:n≤64) (h:a*2 ^ n< 9223372036854775808):shl .i64 (a:Int) (n:Int)=((a<<< n:Nat):Int):=by
  unfold shl
  rw [i64_w,Nat.shiftLeft_eq,Int.toNat_natCast,Nat.min_eq_left (by simpa [IntKind.bits] using hn)]
  have e:(a:Int)*2 ^ n=((a*2 ^ n:Nat):Int):=by simp
  rw [e,wrap_nat h]
theorem shr_nat {a n:Nat} (ha:a< 9223372036854775808):shr .i64 (a:Int) (n:Int)=((a>>>n:Nat):Int):=by
  unfold shr
  rw [Nat.shiftRight_eq_div_pow,Int.toNat_natCast]
  have e:∀ m:Nat,(a:Int) / 2 ^ m=((a / 2 ^ m:Nat):Int):=fun m=>by simp
  rw [e]
  congr 1
  show a / 2 ^ min n 64=_
  rcases Nat.lt_or_ge 64 n with h|h
  · rw [Nat.min_eq_right (by omega),Nat.div_eq_of_lt (by omega),Nat.div_eq_of_lt]
    exact Nat.lt_of_lt_of_le (show a< 2 ^ 64 by omega) (Nat.pow_le_pow_right (by omega) (by omega))
  · rw [Nat.min_eq_left h]
theorem tmod_two (n:Nat):Int.tmod (n:Int) 2=((n % 2:Nat):Int):=by rw [Int.tmod_eq_emod_of_nonneg (by omega)];omega
theorem grIn_val {s i:Nat} (hs:s< 9223372036854775808):((Int.tmod (shr .i64 (s:Int) (i:Int)) 2)==1)=s.testBit i:=by
  rw [shr_nat hs,tmod_two,Nat.testBit_eq_decide_div_mod_eq,Nat.shiftRight_eq_div_pow,Bool.eq_iff_iff,beq_iff_eq,decide_eq_true_iff]
  omega
theorem has_val {s i:Nat} (hs:s< 9223372036854775808):((Go.bits .and .i64 (shr .i64 (s:Int) (i:Int)) 1)==1)=s.testBit i:=by
  have h1:s>>>i< 9223372036854775808:=by
    rw [Nat.shiftRight_eq_div_pow]
    exact Nat.lt_of_le_of_lt (Nat.div_le_self _ _) hs
  rw [shr_nat hs,show (1:Int)=((1:Nat):Int) from rfl,bits_and h1 (by omega),Nat.and_one_is_mod,Nat.testBit_eq_decide_div_mod_eq,Nat.shiftRight_eq_div_pow,Bool.eq_iff_iff,beq_iff_eq,decide_eq_true_iff]
  omega
end Go.Proofs.Ytbbdjoahdbjljaa.Bt
namespace Go.Proofs.Ytbbdjoahdbjljaa.Lw
set_option linter.unusedVariables false
set_option linter.unusedSimpArgs false
open Go.RowKit Go.Proofs.YtbbdjoahdbjljaaW.PrintWords Go.Proofs.YtbbdjoahdbjljaaW.PrintLast Go.Proofs.YtbbdjoahdbjljaaW.PrintMore
theorem wrap_id {x:Int} (h0:-9223372036854775808≤x) (h:x< 9223372036854775808):wrap64 x=x:=by unfold wrap64;omega
theorem rd_nat (l:List Int) (i:Nat):rd l (i:Int)=l.getD i 0:=by simp [rd]
end Go.Proofs.Ytbbdjoahdbjljaa.Lw
namespace Go.Proofs.Ytbbdjoahdbjljaa.Gr
open Go.RowKit Go.Proofs.Ytbbdjoahdbjljaa.P Go.Proofs.Ytbbdjoahdbjljaa.Bt Go.Proofs.Ytbbdjoahdbjljaa.Lw Go.Proofs.YtbbdjoahdbjljaaW.PrintWords Go.Proofs.YtbbdjoahdbjljaaW.PrintLast Go.Proofs.YtbbdjoahdbjljaaW.PrintMore
set_option linter.unusedVariables false
set_option linter.unusedSimpArgs false
theorem Ev.succ {α:Type} {f g:Nat→Option α} {r:α} (h:Ev g r) (K:Nat) (hs:∀ k,K≤k→f (k+1)=g k):Ev f r:=by
  obtain ⟨K1,h1⟩:=h
  refine ⟨K+K1+1,fun k hk=>?_⟩
  obtain ⟨k,rfl⟩:∃ m,k=m+1:=⟨k - 1,by omega⟩
  rw [hs k (by omega)]
  exact h1 k (by omega)
theorem Ev.konst {α:Type} {f:Nat→Option α} {r:α} (K:Nat) (hs:∀ k,K≤k→f k=some r):Ev f r:=⟨K,hs⟩
/-- The neighbours of i, as a natural number. -/
def nr (l:List Int) (i:Nat):Nat:=(l.getD i 0).toNat
/-- No loop, and whoever is a neighbour has one. -/
def OkE (l:List Int) (i j:Nat):Prop:=(nr l i).testBit j=true→i≠j∧(nr l j).testBit i=true
def Rng (l:List Int):Prop:=∀ i,i< l.length→0≤l.getD i 0∧l.getD i 0< 2 ^ l.length
def Good (l:List Int):Prop:=1≤l.length∧l.length≤16∧Rng l∧∀ i,i< l.length→∀ j,j< l.length→OkE l i j
theorem pow16 {n:Nat} (h:n≤16):(2:Nat) ^ n≤65536:=Nat.le_trans (Nat.pow_le_pow_right (by omega) h) (by decide)
theorem nr_cast {l:List Int} (h:Rng l) {i:Nat} (hi:i< l.length):l.getD i 0=(nr l i:Int):=by
  have:=(h i hi).1
  unfold nr;omega
theorem nr_lt {l:List Int} (h:Rng l) {i:Nat} (hi:i< l.length):nr l i< 2 ^ l.length:=by
  have:=h i hi
  have e:((2 ^ l.length:Nat):Int)=(2:Int) ^ l.length:=by simp
  unfold nr;omega
theorem nr_small {l:List Int} (hl:l.length≤16) (h:Rng l) {i:Nat} (hi:i< l.length):nr l i< 65536:=Nat.lt_of_lt_of_le (nr_lt h hi) (pow16 hl)
theorem grIn_nat (s i:Nat) (hs:s< 9223372036854775808):spec_grIn.f (s:Int) (i:Int)=some (s.testBit i):=by
  unfold spec_grIn.f;rw [if_pos (by omega),grIn_val hs]
theorem has_nat (s i:Nat) (hs:s< 9223372036854775808):impl_has.f (s:Int) (i:Int)=some (s.testBit i):=by
  unfold impl_has.f;rw [if_pos (by omega),has_val hs]
theorem in_nat (a b c:Int):impl_in.f a b c=some (decide (b≤a) && decide (a≤c)):=by
  unfold impl_in.f
  by_cases h:b≤a
  · rw [if_pos h];simp [h]
  · rw [if_neg h];simp [h]
theorem shl1 {n:Nat} (h:n≤16):wrap64 (shl .i64 1 (n:Int) - 1)=((2 ^ n - 1:Nat):Int):=by
  have h2:=pow16 h
  have h3:=Nat.two_pow_pos n
  rw [show (1:Int)=((1:Nat):Int) from rfl,shl_nat (by omega) (by omega),Nat.shiftLeft_eq,Nat.one_mul,Bt.wrap_id (by omega) (by omega)]
  omega
theorem whole_nat {n:Nat} (h:n≤16):impl_whole.f (n:Int)=some ((2 ^ n - 1:Nat):Int):=by
  unfold impl_whole.f
  rw [if_pos (by omega),shl1 h]
theorem step1 {i:Nat} (h:i≤1000):wrap64 ((i:Int)+1)=((i+1:Nat):Int):=by rw [Bt.wrap_id (by omega) (by omega)];omega
end Go.Proofs.Ytbbdjoahdbjljaa.Gr
namespace Go.Proofs.Ytbbdjoahdbjljaa.Gr
open Go.RowKit Go.Proofs.Ytbbdjoahdbjljaa.P Go.Proofs.Ytbbdjoahdbjljaa.Bt Go.Proofs.Ytbbdjoahdbjljaa.Lw Go.Proofs.YtbbdjoahdbjljaaW.PrintWords Go.Proofs.YtbbdjoahdbjljaaW.PrintLast Go.Proofs.YtbbdjoahdbjljaaW.PrintMore
set_option linter.unusedVariables false
set_option linter.unusedSimpArgs false
/-- The program's side: the ranges are asked one by one, and each pair once. -/
def Im (l:List Int) (i:Nat):Prop:=0≤l.getD i 0∧l.getD i 0< 2 ^ l.length∧(nr l i).testBit i=false∧∀ j,j< i→(nr l i).testBit j=(nr l j).testBit i
theorem isGraph_l0 (l:List Int) (own:Bool) (hl:l.length≤16):∀ (d i:Nat),l.length - i=d→i≤l.length→(∀ i',i'< i→0≤l.getD i' 0∧l.getD i' 0< 2 ^ l.length)→
    ∃ b:Bool,Ev (fun k=>impl_isGraph.l0 k (l.length:Int) l (l.length:Int) (i:Int) l own) b∧(b=true↔∀ i',i≤i'→i'< l.length→Im l i'):=by
  have hp:=pow16 hl
  have ep:((2 ^ l.length:Nat):Int)=(2:Int) ^ l.length:=by simp
  have hp0:=Nat.two_pow_pos l.length
  intro d
  induction d with
  |zero=>
    intro i hd hi _
    refine ⟨true,Ev.konst 1 fun k hk=>?_,⟨fun _ i' h1 h2=>by omega,fun _=>rfl⟩⟩
    obtain ⟨k,rfl⟩:∃ m,k=m+1:=⟨k - 1,by omega⟩
    rw [impl_isGraph.l0,if_neg (by omega)]
  |succ d ih=>
    intro i hd hi hpre
    by_cases hri:0≤l.getD i 0∧l.getD i 0< 2 ^ l.length
    · obtain ⟨b0,e0,h0⟩:=ih (i+1) (by omega) (by omega) (fun i' h=>by
        by_cases e:i'=i
        · subst e;exact hri
        · exact hpre i' (by omega))
      have hcast:∀ j,j≤i→rd l (j:Int)=(nr l j:Int)∧nr l j< 65536:=by
        intro j hj
        have:0≤l.getD j 0∧l.getD j 0< 2 ^ l.length:=by
          by_cases e:j=i
          · subst e;exact hri
          · exact hpre j (by omega)
        rw [rd_nat]
        unfold nr
        omega
      obtain ⟨hc,hs⟩:=hcast i (Nat.le_refl _)
      have hin:impl_in.f (rd l (i:Int)) 0 (((2 ^ l.length - 1:Nat)):Int)=some true:=by
        rw [in_nat,rd_nat]
        congr 1
        simp only [Bool.and_eq_true,decide_eq_true_eq]
        omega
      by_cases hb:(nr l i).testBit i=true
      · refine ⟨false,Ev.konst 2 fun k hk=>?_,⟨fun h=>(by cases h),fun h=>by have:=(h i (Nat.le_refl _) (by omega)).2.2.1;rw [hb] at this;cases this⟩⟩
        obtain ⟨k,rfl⟩:∃ m,k=m+2:=⟨k - 2,by omega⟩
        rw [impl_isGraph.l0,if_pos (by omega),if_pos (by omega),if_pos (by omega),whole_nat hl]
        simp only [Option.bind_some]
        rw [hin]
        simp only [Option.bind_some,if_true]
        rw [hc,has_nat _ _ (by omega),hb]
        simp only [Option.bind_some]
        rw [impl_isGraph.j1,if_pos rfl]
      · have inner:∀ (e j:Nat),i - j=e→j≤i→
            ∃ b:Bool,Ev (fun k=>impl_isGraph.l1 k (l.length:Int) (i:Int) (rd l (i:Int)) l (l.length:Int) (i:Int) (i:Int) (j:Int) l own) b∧(b=true↔(∀ j',j≤j'→j'< i→(nr l i).testBit j'=(nr l j').testBit i)∧b0=true):=by
          intro e
          induction e with
          |zero=>
            intro j hj1 hj2
            refine ⟨b0,Ev.succ e0 0 fun k _=>?_,⟨fun h=>⟨fun j' h1 h2=>by omega,h⟩,fun h=>h.2⟩⟩
            rw [impl_isGraph.l1,if_neg (by omega),step1 (by omega)]
          |succ e ihe=>
            intro j hj1 hj2
            obtain ⟨b1,e1,h1⟩:=ihe (j+1) (by omega) (by omega)
            obtain ⟨hcj,hsj⟩:=hcast j hj2
            have red:∀ k,impl_isGraph.l1 (k+1) (l.length:Int) (i:Int) (rd l (i:Int)) l (l.length:Int) (i:Int) (i:Int) (j:Int) l own=
                if ((nr l i).testBit j !=(nr l j).testBit i)=true then some false else impl_isGraph.l1 k (l.length:Int) (i:Int) (rd l (i:Int)) l (l.length:Int) (i:Int) (i:Int) ((j+1:Nat):Int) l own:=by
              intro k
              have a1:impl_has.f (rd l (i:Int)) (j:Int)=some ((nr l i).testBit j):=by rw [hc,has_nat _ _ (by omega)]
              have a2:impl_has.f (rd l (j:Int)) (i:Int)=some ((nr l j).testBit i):=by rw [hcj,has_nat _ _ (by omega)]
              rw [impl_isGraph.l1,if_pos (by omega),a1]
              simp only [Option.bind_some]
              rw [if_pos (by omega),if_pos (by omega),a2]
              simp only [Option.bind_some]
              rw [step1 (by omega)]
            by_cases hq:(nr l i).testBit j=(nr l j).testBit i
            · refine ⟨b1,Ev.succ e1 0 fun k _=>?_,?_⟩
              · rw [red,if_neg (by simp [hq])]
              · rw [h1]
                constructor
                · rintro ⟨h2,h3⟩
                  refine ⟨fun j' h4 h5=>?_,h3⟩
                  by_cases e:j'=j
                  · subst e;exact hq
                  · exact h2 j' (by omega) h5
                · rintro ⟨h2,h3⟩
                  exact ⟨fun j' h4 h5=>h2 j' (by omega) h5,h3⟩
            · refine ⟨false,Ev.konst 1 fun k hk=>?_,⟨fun h=>(by cases h),fun h=>absurd (h.1 j (Nat.le_refl _) (by omega)) hq⟩⟩
              obtain ⟨k,rfl⟩:∃ m,k=m+1:=⟨k - 1,by omega⟩
              rw [red,if_pos (by simp [hq])]
        obtain ⟨b,eb,hbb⟩:=inner i 0 (by omega) (by omega)
        have eb2:Ev (fun k=>impl_isGraph.j1 k (l.length:Int) (i:Int) (rd l (i:Int)) l (l.length:Int) (i:Int) false l own) b:=Ev.succ eb 0 fun k _=>by
          rw [impl_isGraph.j1,if_neg (by simp)]
          rfl
        refine ⟨b,Ev.succ eb2 0 fun k _=>?_,?_⟩
        · have a1:impl_has.f (rd l (i:Int)) (i:Int)=some false:=by rw [hc,has_nat _ _ (by omega),Bool.eq_false_iff.mpr hb]
          rw [impl_isGraph.l0,if_pos (by omega),if_pos (by omega),if_pos (by omega),whole_nat hl]
          simp only [Option.bind_some]
          rw [hin]
          simp only [Option.bind_some,if_true]
          rw [a1]
          rfl
        · rw [hbb,h0]
          constructor
          · rintro ⟨h1,h2⟩ i' h3 h4
            by_cases e:i'=i
            · subst e;exact ⟨hri.1,hri.2,Bool.eq_false_iff.mpr hb,fun j hj=>h1 j (Nat.zero_le _) hj⟩
            · exact h2 i' (by omega) h4
          · intro h
            exact ⟨fun j' _ h2=>(h i (Nat.le_refl _) (by omega)).2.2.2 j' h2,fun i' h1 h2=>h i' (by omega) h2⟩
    · refine ⟨false,Ev.konst 2 fun k hk=>?_,⟨fun h=>(by cases h),fun h=>absurd ⟨(h i (Nat.le_refl _) (by omega)).1,(h i (Nat.le_refl _) (by omega)).2.1⟩ hri⟩⟩
      obtain ⟨k,rfl⟩:∃ m,k=m+2:=⟨k - 2,by omega⟩
      have hin:impl_in.f (rd l (i:Int)) 0 (((2 ^ l.length - 1:Nat)):Int)=some false:=by
        rw [in_nat,rd_nat]
        congr 1
        rw [Bool.eq_false_iff]
        simp only [ne_eq,Bool.and_eq_true,decide_eq_true_eq]
        omega
      rw [impl_isGraph.l0,if_pos (by omega),if_pos (by omega),if_pos (by omega),whole_nat hl]
      simp only [Option.bind_some]
      rw [hin]
      simp only [Option.bind_some]
      rw [if_neg (by simp),impl_isGraph.j1,if_pos rfl]
theorem size_impl (l:List Int):impl_isCount.f (l.length:Int)=some (decide (1≤(l.length:Int)) && decide ((l.length:Int)≤16)):=by
  unfold impl_isCount.f;rw [in_nat];rfl
/-- The program says of a list whether it is a graph. -/
theorem good_impl (l:List Int) (own:Bool):∃ b:Bool,(b=true↔Good l)∧Ev (fun k=>impl_isGraph.f k l own) b:=by
  by_cases c:(decide (1≤(l.length:Int)) && decide ((l.length:Int)≤16))=true
  · have hc:=c
    simp only [Bool.and_eq_true,decide_eq_true_eq] at hc
    have hl:l.length≤16:=by omega
    obtain ⟨b2,e2,h2⟩:=isGraph_l0 l own hl l.length 0 (by omega) (by omega) (fun i' h=>by omega)
    refine ⟨b2,?_,?_⟩
    · rw [h2]
      constructor
      · intro h
        have hr:Rng l:=fun i hi=>⟨(h i (Nat.zero_le _) hi).1,(h i (Nat.zero_le _) hi).2.1⟩
        refine ⟨by omega,hl,hr,fun i hi j hj hb=>?_⟩
        have h3:=(h i (Nat.zero_le _) hi).2.2
        have h4:=(h j (Nat.zero_le _) hj).2.2
        have hne:i≠j:=fun e=>by subst e;rw [h3.1] at hb;cases hb
        refine ⟨hne,?_⟩
        rcases Nat.lt_or_ge i j with h5|h5
        · rw [h4.2 i h5];exact hb
        · rw [← h3.2 j (by omega)];exact hb
      · rintro ⟨g1,g2,g3,g4⟩ i _ hi
        refine ⟨(g3 i hi).1,(g3 i hi).2,?_,fun j hj=>?_⟩
        · rw [Bool.eq_false_iff];intro hb;exact (g4 i hi i hi hb).1 rfl
        · rw [Bool.eq_iff_iff]
          exact ⟨fun hb=>(g4 i hi j (by omega) hb).2,fun hb=>(g4 j (by omega) i hi hb).2⟩
    · obtain ⟨K,h⟩:=e2
      refine ⟨K,fun k hk=>?_⟩
      show impl_isGraph.f k l own=_
      unfold impl_isGraph.f
      rw [size_impl,c]
      exact h k hk
  · refine ⟨false,⟨fun h=>(by cases h),fun h=>absurd (by simp only [Bool.and_eq_true,decide_eq_true_eq];have:=h.1;have:=h.2.1;omega) c⟩,⟨0,fun k _=>?_⟩⟩
    show impl_isGraph.f k l own=_
    unfold impl_isGraph.f
    rw [size_impl,Bool.eq_false_iff.mpr c]
    rfl
end Go.Proofs.Ytbbdjoahdbjljaa.Gr
namespace Go.Proofs.Ytbbdjoahdbjljaa.Lw
open Go.RowKit Go.Proofs.Ytbbdjoahdbjljaa.P Go.Proofs.YtbbdjoahdbjljaaW.PrintWords Go.Proofs.YtbbdjoahdbjljaaW.PrintLast Go.Proofs.YtbbdjoahdbjljaaW.PrintMore
set_option linter.unusedVariables false
set_option linter.unusedSimpArgs false
theorem l1In_val (a b c:Int):spec_l1In.f a b c=some (decide (b≤a) && decide (a≤c)):=by
  unfold spec_l1In.f
  by_cases h:b≤a
  · rw [if_pos h];simp [h]
  · rw [if_neg h];simp [h]
theorem all_step (p:Int→Bool) (l:List Int) (i:Nat) (h:i< l.length):(l.drop i).all p=(p (l.getD i 0) && (l.drop (i+1)).all p):=by
  rw [List.drop_eq_getElem_cons h,List.all_cons,List.getD_eq_getElem?_getD,List.getElem?_eq_getElem h]
  rfl
theorem l1All_l0 (l:List Int) (lo hi:Int) (hl:l.length≤4611686018427387904):∀ (d i k:Nat),l.length - i=d→i≤l.length→d< k→
    spec_l1All.l0 k lo hi l (l.length:Int) (i:Int)=some ((l.drop i).all fun x=>decide (lo≤x) && decide (x≤hi)):=by
  intro d
  induction d with
  |zero=>
    intro i k hd hi' hk
    obtain ⟨k,rfl⟩:∃ m,k=m+1:=⟨k - 1,by omega⟩
    have:i=l.length:=by omega
    subst this
    rw [spec_l1All.l0,if_neg (by omega)]
    simp
  |succ d ih=>
    intro i k hd hi' hk
    obtain ⟨k,rfl⟩:∃ m,k=m+1:=⟨k - 1,by omega⟩
    rw [spec_l1All.l0,if_pos (by omega),if_pos (by omega),if_pos (by omega),l1In_val,rd_nat,all_step _ l i (by omega)]
    simp only [Option.bind_some]
    cases hq:(decide (lo≤l.getD i 0) && decide (l.getD i 0≤hi)) with
    |true=>
      rw [if_pos rfl,wrap_id (by omega) (by omega),show ((i:Int)+1)=((i+1:Nat):Int) from by omega,Bool.true_and]
      exact ih (i+1) k (by omega) (by omega) (by omega)
    |false=>rw [if_neg (by simp),Bool.false_and]
theorem l1All_at (l:List Int) (lo hi:Int) (hl:l.length≤4611686018427387904) (k:Nat) (hk:l.length< k):spec_l1All.f k l lo hi=some (l.all fun x=>decide (lo≤x) && decide (x≤hi)):=by
  unfold spec_l1All.f
  have:=l1All_l0 l lo hi hl l.length 0 k (by omega) (by omega) hk
  simpa using this
end Go.Proofs.Ytbbdjoahdbjljaa.Lw
namespace Go.Proofs.Ytbbdjoahdbjljaa.Gr
open Go.RowKit Go.Proofs.Ytbbdjoahdbjljaa.P Go.Proofs.Ytbbdjoahdbjljaa.Bt Go.Proofs.Ytbbdjoahdbjljaa.Lw Go.Proofs.YtbbdjoahdbjljaaW.PrintWords Go.Proofs.YtbbdjoahdbjljaaW.PrintLast Go.Proofs.YtbbdjoahdbjljaaW.PrintMore
set_option linter.unusedVariables false
set_option linter.unusedSimpArgs false
section
variable (l:List Int) (own:Bool) (hl:l.length≤16) (hr:Rng l)
include hl hr
theorem grGood_l0:∀ (d i:Nat),l.length - i=d→i≤l.length→
    ∃ b:Bool,Ev (fun k=>spec_grGood.l0 k l (l.length:Int) (i:Int) l own) b∧(b=true↔∀ i',i≤i'→i'< l.length→∀ j,j< l.length→OkE l i' j):=by
  intro d
  induction d with
  |zero=>
    intro i hd hi
    refine ⟨true,Ev.konst 1 fun k hk=>?_,⟨fun _ i' h1 h2=>by omega,fun _=>rfl⟩⟩
    obtain ⟨k,rfl⟩:∃ m,k=m+1:=⟨k - 1,by omega⟩
    rw [spec_grGood.l0,if_neg (by omega)]
  |succ d ih=>
    intro i hd hi
    obtain ⟨b0,e0,h0⟩:=ih (i+1) (by omega) (by omega)
    have inner:∀ (e j:Nat),l.length - j=e→j≤l.length→
        ∃ b:Bool,Ev (fun k=>spec_grGood.l1 k (i:Int) (rd l (i:Int)) l (l.length:Int) (i:Int) (l.length:Int) (j:Int) l own) b∧(b=true↔(∀ j',j≤j'→j'< l.length→OkE l i j')∧b0=true):=by
      intro e
      induction e with
      |zero=>
        intro j hj1 hj2
        refine ⟨b0,Ev.succ e0 0 fun k _=>?_,⟨fun h=>⟨fun j' h1 h2=>by omega,h⟩,fun h=>h.2⟩⟩
        rw [spec_grGood.l1,if_neg (by omega),step1 (by omega)]
      |succ e ihe=>
        intro j hj1 hj2
        obtain ⟨b1,e1,h1⟩:=ihe (j+1) (by omega) (by omega)
        have hri:rd l (i:Int)=(nr l i:Int):=by rw [rd_nat];exact nr_cast hr (by omega)
        have hrj:rd l (j:Int)=(nr l j:Int):=by rw [rd_nat];exact nr_cast hr (by omega)
        have hsi:=nr_small hl hr (i:=i) (by omega)
        have hsj:=nr_small hl hr (i:=j) (by omega)
        by_cases hb:(nr l i).testBit j=true
        · by_cases hij:i=j
          · refine ⟨false,Ev.konst 1 fun k hk=>?_,⟨fun h=>(by cases h),fun h=>absurd hij (h.1 j (Nat.le_refl _) (by omega) hb).1⟩⟩
            obtain ⟨k,rfl⟩:∃ m,k=m+1:=⟨k - 1,by omega⟩
            rw [spec_grGood.l1,if_pos (by omega),hri,grIn_nat _ _ (by omega),hb]
            simp only [Option.bind_some,if_true]
            rw [if_pos (by omega)]
          · by_cases hb2:(nr l j).testBit i=true
            · refine ⟨b1,Ev.succ e1 0 fun k _=>?_,?_⟩
              · rw [spec_grGood.l1,if_pos (by omega),hrj,grIn_nat (nr l j) i (by omega),hb2,hri,grIn_nat (nr l i) j (by omega),hb]
                simp only [Option.bind_some,if_true]
                rw [if_neg (by omega),if_pos (by omega),if_pos (by omega),step1 (by omega),← hri]
              · rw [h1]
                constructor
                · rintro ⟨h2,h3⟩
                  refine ⟨fun j' h4 h5=>?_,h3⟩
                  by_cases e:j'=j
                  · subst e;exact fun _=>⟨hij,hb2⟩
                  · exact h2 j' (by omega) h5
                · rintro ⟨h2,h3⟩
                  exact ⟨fun j' h4 h5=>h2 j' (by omega) h5,h3⟩
            · refine ⟨false,Ev.konst 1 fun k hk=>?_,⟨fun h=>(by cases h),fun h=>absurd (h.1 j (Nat.le_refl _) (by omega) hb).2 hb2⟩⟩
              obtain ⟨k,rfl⟩:∃ m,k=m+1:=⟨k - 1,by omega⟩
              rw [spec_grGood.l1,if_pos (by omega),hrj,grIn_nat (nr l j) i (by omega),Bool.eq_false_iff.mpr hb2,hri,grIn_nat (nr l i) j (by omega),hb]
              simp only [Option.bind_some,if_true]
              rw [if_neg (by omega),if_pos (by omega),if_pos (by omega),if_neg (by simp)]
        · refine ⟨b1,Ev.succ e1 0 fun k _=>?_,?_⟩
          · rw [spec_grGood.l1,if_pos (by omega),hri,grIn_nat _ _ (by omega),Bool.eq_false_iff.mpr hb]
            simp only [Option.bind_some]
            rw [if_neg (by simp),step1 (by omega)]
          · rw [h1]
            constructor
            · rintro ⟨h2,h3⟩
              refine ⟨fun j' h4 h5=>?_,h3⟩
              by_cases e:j'=j
              · subst e;exact fun h=>absurd h hb
              · exact h2 j' (by omega) h5
            · rintro ⟨h2,h3⟩
              exact ⟨fun j' h4 h5=>h2 j' (by omega) h5,h3⟩
    obtain ⟨b,eb,hb⟩:=inner l.length 0 (by omega) (by omega)
    refine ⟨b,Ev.succ eb 0 fun k _=>?_,?_⟩
    · rw [spec_grGood.l0,if_pos (by omega),if_pos (by omega),if_pos (by omega)]
      rfl
    · rw [hb,h0]
      constructor
      · rintro ⟨h1,h2⟩ i' h3 h4 j h5
        by_cases e:i'=i
        · subst e;exact h1 j (Nat.zero_le _) h5
        · exact h2 i' (by omega) h4 j h5
      · intro h
        exact ⟨fun j' _ h2=>h i (Nat.le_refl _) (by omega) j' h2,fun i' h1 h2=>h i' (by omega) h2⟩
end
theorem size_spec (l:List Int):spec_grSize.f (l.length:Int)=some (decide (1≤(l.length:Int)) && decide ((l.length:Int)≤16)):=by
  unfold spec_grSize.f;rw [l1In_val];rfl
/-- Both say of a list whether it is a graph's. -/
theorem good_both (l:List Int) (own:Bool) (hlen:l.length≤4611686018427387904):∃ b:Bool,(b=true↔Good l)∧Ev (fun k=>spec_grGood.f k l own) b∧Ev (fun k=>impl_isGraph.f k l own) b:=by
  by_cases c:(decide (1≤(l.length:Int)) && decide ((l.length:Int)≤16))=true
  · have hc:=c
    simp only [Bool.and_eq_true,decide_eq_true_eq] at hc
    have hl:l.length≤16:=by omega
    obtain ⟨b2,e2,h2⟩:=isGraph_l0 l own hl l.length 0 (by omega) (by omega) (fun i' h=>by omega)
    have hp0:=Nat.two_pow_pos l.length
    have ep:((2 ^ l.length:Nat):Int)=(2:Int) ^ l.length:=by simp
    have i2:Ev (fun k=>impl_isGraph.f k l own) b2:=by
      obtain ⟨K,h⟩:=e2
      refine ⟨K,fun k hk=>?_⟩
      show impl_isGraph.f k l own=_
      unfold impl_isGraph.f
      rw [size_impl,c]
      exact h k hk
    have hI:b2=true↔Good l:=by
      rw [h2]
      constructor
      · intro h
        have hr:Rng l:=fun i hi=>⟨(h i (Nat.zero_le _) hi).1,(h i (Nat.zero_le _) hi).2.1⟩
        refine ⟨by omega,hl,hr,fun i hi j hj hb=>?_⟩
        have h3:=(h i (Nat.zero_le _) hi).2.2
        have h4:=(h j (Nat.zero_le _) hj).2.2
        have hne:i≠j:=fun e=>by subst e;rw [h3.1] at hb;cases hb
        refine ⟨hne,?_⟩
        rcases Nat.lt_or_ge i j with h5|h5
        · rw [h4.2 i h5];exact hb
        · rw [← h3.2 j (by omega)];exact hb
      · rintro ⟨g1,g2,g3,g4⟩ i _ hi
        refine ⟨(g3 i hi).1,(g3 i hi).2,?_,fun j hj=>?_⟩
        · rw [Bool.eq_false_iff];intro hb;exact (g4 i hi i hi hb).1 rfl
        · rw [Bool.eq_iff_iff]
          exact ⟨fun hb=>(g4 i hi j (by omega) hb).2,fun hb=>(g4 j (by omega) i hi hb).2⟩
    have hall:=l1All_at l 0 ((2 ^ l.length - 1:Nat):Int) hlen
    by_cases a:(l.all fun x=>decide (0≤x) && decide (x≤((2 ^ l.length - 1:Nat):Int)))=true
    · have hr:Rng l:=by
        intro i hi
        simp only [List.all_eq_true,Bool.and_eq_true,decide_eq_true_eq] at a
        have:=a (l.getD i 0) (by rw [List.getD_eq_getElem?_getD,List.getElem?_eq_getElem hi];exact List.getElem_mem _)
        omega
      obtain ⟨b1,e1,h1⟩:=grGood_l0 l own hl hr l.length 0 (by omega) (by omega)
      have hS:b1=true↔Good l:=by
        rw [h1]
        exact ⟨fun h=>⟨by omega,hl,hr,fun i hi j hj=>h i (Nat.zero_le _) hi j hj⟩,fun h i _ hi j hj=>h.2.2.2 i hi j hj⟩
      have e:b1=b2:=by rw [Bool.eq_iff_iff,hS,hI]
      subst e
      refine ⟨b1,hS,?_,i2⟩
      have e1':Ev (fun k=>spec_grGood.j0 k false l own) b1:=Ev.succ e1 0 fun k _=>by
        rw [spec_grGood.j0,if_neg (by simp)]
        rfl
      obtain ⟨K,h⟩:=e1'
      refine ⟨K+l.length+1,fun k hk=>?_⟩
      show spec_grGood.f k l own=_
      unfold spec_grGood.f
      rw [size_spec,c,shl1 hl]
      simp only [Option.bind_some,if_true]
      rw [hall k (by omega),a]
      simp only [Option.bind_some,Bool.not_true]
      exact h k (by omega)
    · refine ⟨b2,hI,?_,i2⟩
      have hn:¬ Good l:=by
        rintro ⟨_,_,g3,_⟩
        apply a
        simp only [List.all_eq_true,Bool.and_eq_true,decide_eq_true_eq]
        intro x hx
        obtain ⟨i,hi,rfl⟩:=List.getElem_of_mem hx
        have:=g3 i hi
        rw [List.getD_eq_getElem?_getD,List.getElem?_eq_getElem hi] at this
        simp only [Option.getD_some] at this
        omega
      have:b2=false:=by rw [Bool.eq_false_iff];exact fun h=>hn (hI.1 h)
      subst this
      refine ⟨l.length+2,fun k hk=>?_⟩
      obtain ⟨k,rfl⟩:∃ m,k=m+1:=⟨k - 1,by omega⟩
      show spec_grGood.f (k+1) l own=_
      unfold spec_grGood.f
      rw [size_spec,c,shl1 hl]
      simp only [Option.bind_some,if_true]
      rw [hall (k+1) (by omega),Bool.eq_false_iff.mpr a]
      simp only [Option.bind_some,Bool.not_false]
      rw [spec_grGood.j0,if_pos rfl]
  · refine ⟨false,⟨fun h=>(by cases h),fun h=>absurd (by simp only [Bool.and_eq_true,decide_eq_true_eq];have:=h.1;have:=h.2.1;omega) c⟩,⟨1,fun k hk=>?_⟩,⟨0,fun k _=>?_⟩⟩
    · obtain ⟨k,rfl⟩:∃ m,k=m+1:=⟨k - 1,by omega⟩
      show spec_grGood.f (k+1) l own=_
      unfold spec_grGood.f
      rw [size_spec,Bool.eq_false_iff.mpr c]
      simp only [Option.bind_some]
      rw [if_neg (by simp),spec_grGood.j0,if_pos rfl]
    · show impl_isGraph.f k l own=_
      unfold impl_isGraph.f
      rw [size_impl,Bool.eq_false_iff.mpr c]
      rfl
end Go.Proofs.Ytbbdjoahdbjljaa.Gr
namespace Go.Proofs.Ytbbdjoahdbjljaa.Lw
set_option linter.unusedVariables false
set_option linter.unusedSimpArgs false
open Go.RowKit Go.Proofs.Ytbbdjoahdbjljaa.P Go.Proofs.YtbbdjoahdbjljaaW.PrintWords Go.Proofs.YtbbdjoahdbjljaaW.PrintLast Go.Proofs.YtbbdjoahdbjljaaW.PrintMore
theorem set_take (l:List Int) (n i:Nat) (hn:l.length=n) (h:i< n):(l.take i++List.replicate (n - i) 0).set i (l.getD i 0)=l.take (i+1)++List.replicate (n - (i+1)) 0:=by
  obtain ⟨m,hm⟩:∃ m,n - i=m+1:=⟨n - i - 1,by omega⟩
  have h1:(l.take i).length=i:=by rw [List.length_take];omega
  rw [List.set_append_right _ _ (by omega),h1,Nat.sub_self,hm,List.replicate_succ,List.set_cons_zero,show n - (i+1)=m by omega,List.take_succ_eq_append_getElem (by omega),List.append_assoc,List.getD_eq_getElem?_getD,List.getElem?_eq_getElem (by omega)]
  rfl
theorem eqIntS_l0 (l:List Int) (hl:l.length≤4611686018427387904):∀ (d i k:Nat),l.length - i=d→i≤l.length→d< k→laws_eqIntS.l0 k l l (i:Int)=some true:=by
  intro d
  induction d with
  |zero=>
    intro i k hd hi hk
    obtain ⟨k,rfl⟩:∃ m,k=m+1:=⟨k - 1,by omega⟩
    rw [laws_eqIntS.l0,if_neg (by omega)]
  |succ d ih=>
    intro i k hd hi hk
    obtain ⟨k,rfl⟩:∃ m,k=m+1:=⟨k - 1,by omega⟩
    rw [laws_eqIntS.l0,if_pos (by omega),if_pos (by omega),if_pos (by omega),if_pos rfl,wrap_id (by omega) (by omega),show ((i:Int)+1)=((i+1:Nat):Int) from by omega]
    exact ih (i+1) k (by omega) (by omega) (by omega)
theorem eqIntS_ev (l:List Int) (hl:l.length≤4611686018427387904):Ev (fun k=>laws_eqIntS.f k l l) true:=by
  refine ⟨l.length+1,fun k hk=>?_⟩
  show laws_eqIntS.f k l l=_
  unfold laws_eqIntS.f
  rw [if_pos rfl]
  exact eqIntS_l0 l hl l.length 0 k (by omega) (by omega) (by omega)
def marks (a:Int) (n:Nat):List Int:=(List.range n).map fun (i:Nat)=>a+(i:Int)
theorem marks_length (a:Int) (n:Nat):(marks a n).length=n:=by simp [marks]
theorem marks_get (a:Int) (n i:Nat) (h:i< n):(marks a n).getD i 0=a+i:=by simp [marks,List.getD_eq_getElem?_getD,h]
theorem marks_succ (a:Int) (n:Nat):marks a (n+1)=marks a n++[a+(n:Int)]:=by simp [marks,List.range_succ]
theorem set_marks (a:Int) (l:List Int) (i:Nat) (h:i< l.length):(marks a i++l.drop i).set i (a+(i:Int))=marks a (i+1)++l.drop (i+1):=by
  rw [List.set_append_right _ _ (by rw [marks_length];omega),marks_length,Nat.sub_self,List.drop_eq_getElem_cons h,List.set_cons_zero,marks_succ,List.append_assoc]
  rfl
theorem markIntS_l0 (a:Int) (l:List Int) (ha:0≤a) (hb:a+l.length≤4611686018427387904):∀ (d i k:Nat),l.length - i=d→i≤l.length→d< k→
    laws_markIntS.l0 k (marks a i++l.drop i) (a+(i:Int)) (i:Int)=some (a+(l.length:Int),marks a l.length):=by
  intro d
  induction d with
  |zero=>
    intro i k hd hi hk
    obtain ⟨k,rfl⟩:∃ m,k=m+1:=⟨k - 1,by omega⟩
    have:i=l.length:=by omega
    subst this
    rw [laws_markIntS.l0,if_neg (by simp [marks_length])]
    simp
  |succ d ih=>
    intro i k hd hi hk
    obtain ⟨k,rfl⟩:∃ m,k=m+1:=⟨k - 1,by omega⟩
    rw [laws_markIntS.l0,if_pos (by simp [marks_length];omega),if_pos (by omega),Int.toNat_natCast,set_marks a l i (by omega),wrap_id (by omega) (by omega),wrap_id (by omega) (by omega)]
    rw [show (a+(i:Int)+1)=a+((i+1:Nat):Int) from by omega,show ((i:Int)+1)=((i+1:Nat):Int) from by omega]
    exact ih (i+1) k (by omega) (by omega) (by omega)
theorem markIntS_ev (l:List Int) (a:Int) (ha:0≤a) (hb:a+l.length≤4611686018427387904):Ev (fun k=>laws_markIntS.f k l a) (a+(l.length:Int),marks a l.length):=by
  refine ⟨l.length+1,fun k hk=>?_⟩
  show laws_markIntS.f k l a=_
  unfold laws_markIntS.f
  have:=markIntS_l0 a l ha hb l.length 0 k (by omega) (by omega) (by omega)
  simpa [marks] using this
theorem heldIntS_l0 (a:Int) (n:Nat) (ha:0≤a) (hb:a+n≤4611686018427387904):∀ (d i k:Nat),n - i=d→i≤n→d< k→
    laws_heldIntS.l0 k (marks a n) (a+(i:Int)) (i:Int)=some (a+(n:Int)):=by
  intro d
  induction d with
  |zero=>
    intro i k hd hi hk
    obtain ⟨k,rfl⟩:∃ m,k=m+1:=⟨k - 1,by omega⟩
    have:i=n:=by omega
    subst this
    rw [laws_heldIntS.l0,if_neg (by rw [marks_length];omega)]
  |succ d ih=>
    intro i k hd hi hk
    obtain ⟨k,rfl⟩:∃ m,k=m+1:=⟨k - 1,by omega⟩
    rw [laws_heldIntS.l0,if_pos (by rw [marks_length];omega),if_pos (by omega),rd_nat,marks_get a n i (by omega),if_pos rfl,wrap_id (by omega) (by omega),wrap_id (by omega) (by omega)]
    rw [show (a+(i:Int)+1)=a+((i+1:Nat):Int) from by omega,show ((i:Int)+1)=((i+1:Nat):Int) from by omega]
    exact ih (i+1) k (by omega) (by omega) (by omega)
theorem heldIntS_ev (a:Int) (n:Nat) (ha:0≤a) (hb:a+n≤4611686018427387904):Ev (fun k=>laws_heldIntS.f k (marks a n) a) (a+(n:Int)):=by
  refine ⟨n+1,fun k hk=>?_⟩
  show laws_heldIntS.f k (marks a n) a=_
  unfold laws_heldIntS.f
  have:=heldIntS_l0 a n ha hb n 0 k (by omega) (by omega) (by omega)
  simpa using this
end Go.Proofs.Ytbbdjoahdbjljaa.Lw
namespace Go.Proofs.Ytbbdjoahdbjljaa.Lw
set_option linter.unusedVariables false
set_option linter.unusedSimpArgs false
open Go.RowKit Go.Proofs.Ytbbdjoahdbjljaa.P Go.Proofs.YtbbdjoahdbjljaaW.PrintWords Go.Proofs.YtbbdjoahdbjljaaW.PrintLast Go.Proofs.YtbbdjoahdbjljaaW.PrintMore
theorem toIntS_l0 (l:List Int) (hl:l.length≤35184372088832):∀ (d i k:Nat),l.length - i=d→i≤l.length→d< k→
    laws_toIntS.l0 k l (l.take i++List.replicate (l.length - i) 0) (i:Int)=some l:=by
  intro d
  induction d with
  |zero=>
    intro i k hd hi hk
    obtain ⟨k,rfl⟩:∃ m,k=m+1:=⟨k - 1,by omega⟩
    have:i=l.length:=by omega
    subst this
    rw [laws_toIntS.l0,if_neg (by omega)]
    simp
  |succ d ih=>
    intro i k hd hi hk
    obtain ⟨k,rfl⟩:∃ m,k=m+1:=⟨k - 1,by omega⟩
    rw [laws_toIntS.l0,if_pos (by omega),if_pos (by omega),if_pos (by simp;omega),rd_nat,Int.toNat_natCast,set_take l l.length i rfl (by omega)]
    rw [show ((i:Int)+1)=((i+1:Nat):Int) from by omega,wrap_id (by omega) (by omega)]
    exact ih (i+1) k (by omega) (by omega) (by omega)
theorem toIntS_ev (l:List Int) (hl:l.length≤35184372088832):Ev (fun k=>laws_toIntS.f k l) l:=by
  refine ⟨l.length+1,fun k hk=>?_⟩
  show laws_toIntS.f k l=_
  unfold laws_toIntS.f
  rw [if_pos (by omega),if_pos (by simpa using hl)]
  have:=toIntS_l0 l hl l.length 0 k (by omega) (by omega) (by omega)
  simpa using this
end Go.Proofs.Ytbbdjoahdbjljaa.Lw
namespace Go.Proofs.Ytbbdjoahdbjljaa.Lw
open Go.RowKit Go.Proofs.Ytbbdjoahdbjljaa.P Go.Proofs.YtbbdjoahdbjljaaW.PrintWords Go.Proofs.YtbbdjoahdbjljaaW.PrintLast Go.Proofs.YtbbdjoahdbjljaaW.PrintMore
set_option linter.unusedVariables false
set_option linter.unusedSimpArgs false
theorem eqGraph_ev (l:List Int) (b:Bool) (hl:l.length≤4611686018427387904):Ev (fun k=>laws_eqGraph.f k l b l b) true:=by
  obtain ⟨K,h⟩:=eqIntS_ev l hl
  refine ⟨K,fun k hk=>?_⟩
  show laws_eqGraph.f k l b l b=_
  unfold laws_eqGraph.f
  have:=h k hk
  simp only at this
  rw [this]
  simp
theorem markGraph_ev (l:List Int) (b:Bool) (a:Int) (ha:0≤a) (hb:a+l.length≤4611686018427387904):Ev (fun k=>laws_markGraph.f k l b a) (a+(l.length:Int),marks a l.length):=by
  obtain ⟨K,h⟩:=markIntS_ev l a ha hb
  refine ⟨K,fun k hk=>?_⟩
  show laws_markGraph.f k l b a=_
  unfold laws_markGraph.f
  have:=h k hk
  simp only at this
  rw [this]
  simp
end Go.Proofs.Ytbbdjoahdbjljaa.Lw
namespace Go.Proofs.Ytbbdjoahdbjljaa.Gr
open Go.RowKit Go.Proofs.Ytbbdjoahdbjljaa.P Go.Proofs.Ytbbdjoahdbjljaa.Bt Go.Proofs.Ytbbdjoahdbjljaa.Lw Go.Proofs.YtbbdjoahdbjljaaW.PrintWords Go.Proofs.YtbbdjoahdbjljaaW.PrintLast Go.Proofs.YtbbdjoahdbjljaaW.PrintMore
set_option linter.unusedVariables false
set_option linter.unusedSimpArgs false
theorem toGraph_ev (l:List Int) (b:Bool) (hl:l.length≤35184372088832):Ev (fun k=>laws_toGraph.f k l b) (l,b):=by
  obtain ⟨K,h⟩:=toIntS_ev l hl
  refine ⟨K,fun k hk=>?_⟩
  show laws_toGraph.f k l b=_
  unfold laws_toGraph.f
  have:=h k hk
  simp only at this
  rw [this];rfl
theorem szGraph_small (l:List Int) (b:Bool) (h:l.length≤1048576):laws_szGraph.f l b 1048576=some (1048576 - (l.length:Int)):=by
  unfold laws_szGraph.f laws_szIntS.f
  rw [Bt.wrap_id (by omega) (by omega),if_neg (by omega)]
  simp only [Option.bind_some]
  rw [if_neg (by omega)]
theorem szGraph_big (l:List Int) (b:Bool) (hl:l.length≤9223372036854775807) (h:¬ l.length≤1048576):laws_szGraph.f l b 1048576=some (-1):=by
  unfold laws_szGraph.f laws_szIntS.f
  rw [Bt.wrap_id (by omega) (by omega),if_pos (by omega)]
  rfl
end Go.Proofs.Ytbbdjoahdbjljaa.Gr
namespace Go.Proofs.Ytbbdjoahdbjljaa.Co
open Go.RowKit Go.Proofs.Ytbbdjoahdbjljaa.P Go.Proofs.Ytbbdjoahdbjljaa.Bt Go.Proofs.Ytbbdjoahdbjljaa.Lw Go.Proofs.Ytbbdjoahdbjljaa.Gr Go.Proofs.YtbbdjoahdbjljaaW.PrintWords Go.Proofs.YtbbdjoahdbjljaaW.PrintLast Go.Proofs.YtbbdjoahdbjljaaW.PrintMore
set_option linter.unusedVariables false
set_option linter.unusedSimpArgs false
def IsMod (m:Int):Prop:=m=2∨m=3∨m=5∨m=7
def modB (m:Int):Bool:=decide (m=2)||decide (m=3)||decide (m=5)||decide (m=7)
theorem modB_iff (m:Int):modB m=true↔IsMod m:=by
  simp only [modB,IsMod,Bool.or_eq_true,decide_eq_true_eq,or_assoc]
theorem prime_at (m:Int) (k:Nat) (hk:5< k):spec_clPrime.f k m=some (modB m):=by
  obtain ⟨k,rfl⟩:∃ q,k=q+5:=⟨k - 5,by omega⟩
  have w1:wrap64 (0+1)=1:=Bt.wrap_id (x:=0+1) (by omega) (by omega)
  have w2:wrap64 (1+1)=2:=Bt.wrap_id (x:=1+1) (by omega) (by omega)
  have w3:wrap64 (2+1)=3:=Bt.wrap_id (x:=2+1) (by omega) (by omega)
  have w4:wrap64 (3+1)=4:=Bt.wrap_id (x:=3+1) (by omega) (by omega)
  have r0:rd [2,3,5,7] 0=2:=by decide
  have r1:rd [2,3,5,7] 1=3:=by decide
  have r2:rd [2,3,5,7] 2=5:=by decide
  have r3:rd [2,3,5,7] 3=7:=by decide
  have hl:(([2,3,5,7]:List Int).length:Int)=4:=by decide
  unfold spec_clPrime.f spec_l1Has.f modB
  rw [hl]
  rw [spec_l1Has.l0,if_pos (by decide),if_pos (by decide),if_pos (by rw [hl];decide),r0]
  by_cases c0:(2:Int)=m
  · subst c0;rfl
  rw [if_neg c0,w1,spec_l1Has.l0,if_pos (by decide),if_pos (by decide),if_pos (by rw [hl];decide),r1]
  by_cases c1:(3:Int)=m
  · subst c1;rfl
  rw [if_neg c1,w2,spec_l1Has.l0,if_pos (by decide),if_pos (by decide),if_pos (by rw [hl];decide),r2]
  by_cases c2:(5:Int)=m
  · subst c2;rfl
  rw [if_neg c2,w3,spec_l1Has.l0,if_pos (by decide),if_pos (by decide),if_pos (by rw [hl];decide),r3]
  by_cases c3:(7:Int)=m
  · subst c3;rfl
  rw [if_neg c3,w4,spec_l1Has.l0,if_neg (by decide)]
  have h0:decide (m=2)=false:=by simp;omega
  have h1:decide (m=3)=false:=by simp;omega
  have h2:decide (m=5)=false:=by simp;omega
  have h3:decide (m=7)=false:=by simp;omega
  rw [h0,h1,h2,h3]
  rfl
theorem modulus_at (m:Int):impl_isModulus.f m=some (modB m):=by
  unfold impl_isModulus.f modB
  by_cases c0:m=2
  · subst c0;rfl
  by_cases c1:m=3
  · subst c1;rfl
  by_cases c2:m=5
  · subst c2;rfl
  by_cases c3:m=7
  · subst c3;rfl
  rw [if_neg c0,if_neg c1,if_neg c2]
  have h0:decide (m=2)=false:=by simp [c0]
  have h1:decide (m=3)=false:=by simp [c1]
  have h2:decide (m=5)=false:=by simp [c2]
  have h3:decide (m=7)=false:=by simp [c3]
  have h4:(m==7)=false:=by simp [c3]
  rw [h0,h1,h2,h3,h4]
  rfl
theorem coloured_both (l:List Int) (own:Bool) (hlen:l.length≤4611686018427387904) (m:Int):
    ∃ b:Bool,(b=true↔Gr.Good l∧IsMod m∧l.length≤10)∧Ev (fun k=>spec_clGood.f k l own m) b∧Ev (fun k=>impl_isColoured.f k l own m) b:=by
  obtain ⟨g,hg,⟨K1,e1⟩,⟨K2,e2⟩⟩:=good_both l own hlen
  simp only at e1 e2
  refine ⟨modB m && g && decide ((l.length:Int)≤10),?_,⟨K1+6,fun k hk=>?_⟩,⟨K2,fun k hk=>?_⟩⟩
  · rw [Bool.and_eq_true,Bool.and_eq_true,modB_iff,hg,decide_eq_true_eq]
    constructor
    · rintro ⟨⟨a,b⟩,c⟩;exact ⟨b,a,by omega⟩
    · rintro ⟨a,b,c⟩;exact ⟨⟨b,a⟩,by omega⟩
  · show spec_clGood.f k l own m=_
    unfold spec_clGood.f
    rw [prime_at m k (by omega),Option.bind_some]
    cases modB m with
    |false=>rfl
    |true=>
      rw [if_pos rfl,e1 k (by omega),Option.bind_some]
      cases g<;>rfl
  · show impl_isColoured.f k l own m=_
    unfold impl_isColoured.f
    rw [e2 k hk,Option.bind_some]
    cases g with
    |false=>rw [if_neg (by simp),Bool.and_false,Bool.false_and]
    |true=>
      rw [if_pos rfl]
      by_cases c:(l.length:Int)≤10
      · rw [if_pos c,modulus_at,Option.bind_some,decide_eq_true c,Bool.and_true,Bool.and_true]
      · rw [if_neg c,decide_eq_false c,Bool.and_false]
def InR (m:Int) (l:List Int):Prop:=∀ x,x ∈ l→0≤x∧x< m
theorem mod_small {m:Int} (h:IsMod m):2≤m∧m≤7:=by unfold IsMod at h;omega
/-- What button i changes, as a natural number. -/
def tg (l:List Int) (own:Bool) (i:Nat):Nat:=if own=true then nr l i|||1<<< i else nr l i
theorem shl_bit {i:Nat} (h:i≤16):shl .i64 1 (i:Int)=((1<<< i:Nat):Int):=by
  have h1:2 ^ i≤2 ^ 16:=Nat.pow_le_pow_right (by omega) h
  have:=shl_nat (a:=1) (n:=i) (by omega) (by omega)
  simpa using this
theorem tg_lt {l:List Int} (G:Gr.Good l) (own:Bool) {i:Nat} (hi:i< l.length):tg l own i< 2 ^ l.length:=by
  have h1:=nr_lt G.2.2.1 hi
  unfold tg
  split
  · exact Nat.or_lt_two_pow h1 (by rw [Nat.one_shiftLeft];exact Nat.pow_lt_pow_right (by omega) hi)
  · exact h1
theorem tg_small {l:List Int} (G:Gr.Good l) (own:Bool) {i:Nat} (hi:i< l.length):tg l own i< 65536:=Nat.lt_of_lt_of_le (tg_lt G own hi) (pow16 G.2.1)
theorem toggles_at {l:List Int} (G:Gr.Good l) (own:Bool) {i:Nat} (hi:i< l.length):spec_grToggles.f l own (i:Int)=some ((tg l own i:Nat):Int)∧impl_Graph_toggles.f l own (i:Int)=some ((tg l own i:Nat):Int):=by
  have hl:=G.2.1
  have hri:rd l (i:Int)=(nr l i:Int):=by rw [rd_nat];exact nr_cast G.2.2.1 hi
  have hsi:=nr_small hl G.2.2.1 hi
  have hp:=pow16 hl
  have hb:1<<< i< 2 ^ l.length:=by rw [Nat.one_shiftLeft];exact Nat.pow_lt_pow_right (by omega) hi
  unfold spec_grToggles.f impl_Graph_toggles.f tg
  cases own with
  |false=>exact ⟨by rw [if_neg (by simp),if_pos (by omega),if_pos (by omega),hri];rfl,by rw [if_neg (by simp),if_pos (by omega),if_pos (by omega),hri];rfl⟩
  |true=>exact ⟨by rw [if_pos rfl,if_pos (by omega),if_pos (by omega),hri,shl_bit (by omega),bits_or (by omega) (by omega)];rfl,by rw [if_pos rfl,if_pos (by omega),if_pos (by omega),hri,shl_bit (by omega),bits_or (by omega) (by omega)];rfl⟩
theorem getD_InR {m:Int} {l:List Int} (h:InR m l) {i:Nat} (hi:i< l.length):0≤l.getD i 0∧l.getD i 0< m:=by
  rw [List.getD_eq_getElem?_getD,List.getElem?_eq_getElem hi]
  exact h _ (List.getElem_mem _)
theorem set_InR {m:Int} {l:List Int} (h:InR m l) {i:Nat} {x:Int} (hx:0≤x∧x< m):InR m (l.set i x):=by
  intro y hy
  rcases List.mem_or_eq_of_mem_set hy with h'|h'
  · exact h y h'
  · subst h';exact hx
theorem zeros_InR {m:Int} (hm:2≤m) (n:Nat):InR m (List.replicate n 0):=by
  intro x hx
  have:=List.eq_of_mem_replicate hx
  omega
end Go.Proofs.Ytbbdjoahdbjljaa.Co
