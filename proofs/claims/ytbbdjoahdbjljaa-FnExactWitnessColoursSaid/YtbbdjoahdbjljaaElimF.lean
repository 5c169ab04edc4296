/- The two sides' eliminations, as they stand in the program, answer the plain one. -/
import Derived.Test.YtbbdjoahdbjljaaBundleA
import Derived.Test.YtbbdjoahdbjljaaBundleB
import Derived.Test.YtbbdjoahdbjljaaPx17
import Derived.Test.YtbbdjoahdbjljaaPx18
import Derived.Test.YtbbdjoahdbjljaaPx19
import Derived.Test.YtbbdjoahdbjljaaPx21
namespace Go.Proofs.Ytbbdjoahdbjljaa.Ef
open Go.RowKit Go.Proofs.Ytbbdjoahdbjljaa.P Go.Proofs.Ytbbdjoahdbjljaa.Bt Go.Proofs.Ytbbdjoahdbjljaa.Lw Go.Proofs.Ytbbdjoahdbjljaa.Gr Go.Proofs.Ytbbdjoahdbjljaa.Co Go.Proofs.Ytbbdjoahdbjljaa.El Go.Proofs.YtbbdjoahdbjljaaW.PrintWords Go.Proofs.YtbbdjoahdbjljaaW.PrintLast Go.Proofs.YtbbdjoahdbjljaaW.PrintMore
set_option linter.unusedVariables false
set_option linter.unusedSimpArgs false
theorem isMod_of {m:Int} (h:IsMod m):isMod m=true:=by
  rcases h with rfl|rfl|rfl|rfl<;>decide
theorem mod_val {a m:Int} (hm:2≤m) (hm':m≤7) (h0:-4611686018427387904≤a) (h1:a≤4611686018427387904):impl_mod.f a m=some (a % m):=by
  unfold impl_mod.f
  rw [if_neg (by omega)]
  have h2:=Int.tmod_lt_of_pos a (show 0< m by omega)
  have h3:-m< Int.tmod a m:=by
    have:=Int.tmod_lt_of_pos (-a) (show 0< m by omega)
    rw [Int.neg_tmod] at this
    omega
  rw [Bt.wrap_id (by omega) (by omega),Int.tmod_eq_emod_of_nonneg (by omega),Int.add_emod_right]
  have h4:=Int.mul_tdiv_add_tmod a m
  have h5:a % m=(m*a.tdiv m+a.tmod m) % m:=by rw [h4]
  rw [h5,Int.mul_add_emod_self_left]
theorem inverse_ev {m x:Int} (M:IsMod m) (h0:0≤x) (h1:x< m) (k:Nat) (hk:8≤k):impl_inverse.f k x m=some (inv x m):=by
  obtain ⟨k,rfl⟩:∃ q,k=q+8:=⟨k - 8,by omega⟩
  have hx:x=0∨x=1∨x=2∨x=3∨x=4∨x=5∨x=6:=by have:=mod_small M;omega
  rcases M with rfl|rfl|rfl|rfl<;>rcases hx with rfl|rfl|rfl|rfl|rfl|rfl|rfl<;>first|(exfalso;omega)|(simp [impl_inverse.f,impl_inverse.l0,El.inv,wrap64];done)
theorem clInverse_ev {m x:Int} (M:IsMod m) (h0:0< x) (h1:x< m) (k:Nat) (hk:8≤k):spec_clInverse.f k x m=some (inv x m):=by
  obtain ⟨k,rfl⟩:∃ q,k=q+8:=⟨k - 8,by omega⟩
  have hx:x=0∨x=1∨x=2∨x=3∨x=4∨x=5∨x=6:=by have:=mod_small M;omega
  rcases M with rfl|rfl|rfl|rfl<;>rcases hx with rfl|rfl|rfl|rfl|rfl|rfl|rfl<;>first|(exfalso;omega)|(simp [spec_clInverse.f,spec_clInverse.l0,El.inv,wrap64];done)
theorem prod_le {x y:Int} (hx:-1048576≤x∧x≤1048576) (hy:-1048576≤y∧y≤1048576):-1099511627776≤x*y∧x*y≤1099511627776:=by
  have h1:(x*y).natAbs≤1048576*1048576:=by
    rw [Int.natAbs_mul]
    exact Nat.mul_le_mul (by omega) (by omega)
  omega
def Sml (l:List Int):Prop:=∀ x ∈ l,-1048576≤x∧x≤1048576
theorem getD_mem' {l:List Int} {i:Nat} (hi:i< l.length):l.getD i 0 ∈ l:=by
  rw [List.getD_eq_getElem?_getD,List.getElem?_eq_getElem hi]
  exact List.getElem_mem hi
theorem drop_at {l:List Int} {i:Nat} (hi:i< l.length):l.drop i=l.getD i 0::l.drop (i+1):=by
  rw [List.drop_eq_getElem_cons hi,List.getD_eq_getElem?_getD,List.getElem?_eq_getElem hi];rfl
theorem scaled_l0 {m u:Int} (M:IsMod m) (hu:-1048576≤u∧u≤1048576) (l:List Int) (hl:l.length≤1000) (hs:Sml l):∀ (d i:Nat) (out:List Int),i+d=l.length→out.length≤i→
    Ev (fun k=>impl_scaled.l0 k u m out l (l.length:Int) (i:Int)) (out++scaleR m u (l.drop i)):=by
  have hm:=mod_small M
  intro d
  induction d with
  |zero=>
    intro i out hi ho
    refine Ev.konst 1 fun k hk=>?_
    obtain ⟨k,rfl⟩:∃ m,k=m+1:=⟨k - 1,by omega⟩
    rw [impl_scaled.l0,if_neg (by omega),List.drop_eq_nil_of_le (by omega)]
    simp [scaleR]
  |succ d ih=>
    intro i out hi ho
    have h:=ih (i+1) (out++[l.getD i 0*u % m]) (by omega) (by simp;omega)
    have hx:=hs _ (getD_mem' (l:=l) (i:=i) (by omega))
    have hp:=prod_le hx hu
    rw [drop_at (l:=l) (by omega)]
    have e:out++scaleR m u (l.getD i 0::l.drop (i+1))=(out++[l.getD i 0*u % m])++scaleR m u (l.drop (i+1)):=by simp [scaleR]
    rw [e]
    refine Ev.succ h 0 fun k _=>?_
    rw [impl_scaled.l0,if_pos (by omega),if_pos (by omega),if_pos (by omega),rd_nat,Bt.wrap_id (by omega) (by omega),mod_val hm.1 hm.2 (by omega) (by omega),Option.bind_some,if_pos (by omega),step1 (by omega)]
theorem scaled_ev {m u:Int} (M:IsMod m) (hu:-1048576≤u∧u≤1048576) (l:List Int) (hl:l.length≤1000) (hs:Sml l):Ev (fun k=>impl_scaled.f k l u m) (scaleR m u l):=by
  have h:=scaled_l0 M hu l hl hs l.length 0 [] (by omega) (by simp)
  exact h
def addB (m b:Int) (r q:List Int):List Int:=List.zipWith (fun x y=>(x+b*y) % m) r q
theorem addB_addR (m f:Int) (r q:List Int):addB m (-f) r q=addR m f r q:=by
  unfold addB addR
  congr 1
  funext x y
  rw [show x+(m - f)*y=x+-f*y+m*y by grind,Int.add_mul_emod_self_left]
theorem added_l0 {m b:Int} (M:IsMod m) (hb:-1048576≤b∧b≤1048576) (q l:List Int) (hl:l.length≤1000) (hq:l.length≤q.length) (hs:Sml l) (hsq:Sml q):∀ (d i:Nat) (out:List Int),i+d=l.length→out.length≤i→
    Ev (fun k=>impl_added.l0 k q b m out l (l.length:Int) (i:Int)) (out++addB m b (l.drop i) (q.drop i)):=by
  have hm:=mod_small M
  intro d
  induction d with
  |zero=>
    intro i out hi ho
    refine Ev.konst 1 fun k hk=>?_
    obtain ⟨k,rfl⟩:∃ m,k=m+1:=⟨k - 1,by omega⟩
    rw [impl_added.l0,if_neg (by omega),show l.drop i=[] from List.drop_eq_nil_of_le (by omega)]
    simp [addB]
  |succ d ih=>
    intro i out hi ho
    have h:=ih (i+1) (out++[(l.getD i 0+b*q.getD i 0) % m]) (by omega) (by simp;omega)
    have hx:=hs _ (getD_mem' (l:=l) (i:=i) (by omega))
    have hy:=hsq _ (getD_mem' (l:=q) (i:=i) (by omega))
    have hp:=prod_le hb hy
    rw [drop_at (l:=l) (by omega),drop_at (l:=q) (by omega)]
    have e:out++addB m b (l.getD i 0::l.drop (i+1)) (q.getD i 0::q.drop (i+1))=(out++[(l.getD i 0+b*q.getD i 0) % m])++addB m b (l.drop (i+1)) (q.drop (i+1)):=by simp [addB]
    rw [e]
    refine Ev.succ h 0 fun k _=>?_
    rw [impl_added.l0,if_pos (by omega),if_pos (by omega),if_pos (by omega),if_pos (by omega),rd_nat,rd_nat,Bt.wrap_id (x:=b*_) (by omega) (by omega),Bt.wrap_id (by omega) (by omega),mod_val hm.1 hm.2 (by omega) (by omega),Option.bind_some,if_pos (by omega),step1 (by omega)]
theorem added_ev {m b:Int} (M:IsMod m) (hb:-1048576≤b∧b≤1048576) (l q:List Int) (hl:l.length≤1000) (hq:l.length≤q.length) (hs:Sml l) (hsq:Sml q):Ev (fun k=>impl_added.f k l q b m) (addB m b l q):=
  added_l0 M hb q l hl hq hs hsq l.length 0 [] (by omega) (by simp)
/-! ### rows of rows -/
theorem rdL (M:List (List Int)) (i:Nat):rd_L1 M (i:Int)=M.getD i []:=by simp [rd_L1]
theorem rowOk_sml {m:Int} (hm:m≤7) {w:Nat} {r:List Int} (h:rowOk m w r=true):Sml r:=fun x hx=>by have:=(rowOk_iff.1 h).2 x hx;omega
theorem rowAt_val {M:List (List Int)} {i:Nat} (h:i< M.length):pseudo_rowAt.f M (i:Int)=some (M.getD i []):=by
  unfold pseudo_rowAt.f
  rw [if_pos (by omega),if_pos (by omega),rdL]
theorem tmod_val {a m:Int} (ha:0≤a):Int.tmod a m=a % m:=Int.tmod_eq_emod_of_nonneg ha
section impl
variable {m:Int} {w:Nat} (Mm:IsMod m)
theorem find_ev {c k0 n:Nat} {pl:List Int} {det:Int} {r:List (List Int) × List Int × Int} {M:List (List Int)} (hM:matOk m w M=true) (hl:M.length≤100) (hc:c< w):∀ (d p:Nat),p+d=M.length→
    Ev (fun k=>impl_eliminate.j2 k M m (c:Int) (k0:Int) ((find M c p:Nat):Int) (n:Int) (c:Int) pl det) r→
    Ev (fun k=>impl_eliminate.l1 k M m (c:Int) (k0:Int) (p:Int) (n:Int) (c:Int) pl det) r:=by
  intro d
  induction d with
  |zero=>
    intro p hp h
    rw [find_end (by omega)] at h
    refine Ev.succ h 0 fun k _=>?_
    rw [impl_eliminate.l1,if_neg (by omega)]
  |succ d ih=>
    intro p hp h
    have hlen:=len_at hM (i:=p) (by omega)
    by_cases hz:at2 M p c=0
    · rw [find_next (by omega) hz] at h
      refine Ev.succ (ih (p+1) (by omega) h) 0 fun k _=>?_
      rw [impl_eliminate.l1,if_pos (by omega),if_pos (by omega),if_pos (by omega),rdL,if_pos (by omega),rd_nat,if_pos (show (M.getD p []).getD c 0=0 from hz),step1 (by omega)]
    · rw [find_here (by omega) hz] at h
      refine Ev.succ h 0 fun k _=>?_
      rw [impl_eliminate.l1,if_pos (by omega),if_pos (by omega),if_pos (by omega),rdL,if_pos (by omega),rd_nat,if_neg (show ¬ (M.getD p []).getD c 0=0 from hz)]
include Mm
theorem sweep_ev {c k0 n:Nat} {pl:List Int} {det:Int} {r:List (List Int) × List Int × Int} (hw:w≤1000) (hc:c< w) (hpl:pl.length≤1000) (hn:c≤900):∀ (d i:Nat) (M:List (List Int)),matOk m w M=true→M.length≤100→k0< M.length→i+d=M.length→
    Ev (fun k=>impl_eliminate.l0 k (sweep m c k0 d i M) m (n:Int) ((c+1:Nat):Int) (pl++[(c:Int)]) det) r→
    Ev (fun k=>impl_eliminate.l2 k M m (c:Int) (k0:Int) (n:Int) (c:Int) (M.length:Int) (i:Int) pl det) r:=by
  have hm:=mod_small Mm
  intro d
  induction d with
  |zero=>
    intro i M hM hl hk hi h
    refine Ev.succ h 0 fun k _=>?_
    rw [impl_eliminate.l2,if_neg (by omega),if_pos (by omega),step1 (by omega)]
    rfl
  |succ d ih=>
    intro i M hM hl hk hi h
    have hleni:=len_at hM (i:=i) (by omega)
    have hlenk:=len_at hM (i:=k0) (by omega)
    rw [El.sweep] at h
    by_cases hik:i=k0
    · have e:sweep1 m c k0 i M=M:=by unfold El.sweep1;rw [if_pos (.inl hik)]
      rw [e] at h
      refine Ev.succ (ih (i+1) M hM hl hk (by omega) h) 0 fun k _=>?_
      rw [impl_eliminate.l2,if_pos (by omega),if_pos (by omega),step1 (by omega)]
    · by_cases hz:at2 M i c=0
      · have e:sweep1 m c k0 i M=M:=by unfold El.sweep1;rw [if_pos (.inr hz)]
        rw [e] at h
        refine Ev.succ (ih (i+1) M hM hl hk (by omega) h) 0 fun k _=>?_
        rw [impl_eliminate.l2,if_pos (by omega),if_neg (by omega),if_pos (by omega),if_pos (by omega),if_pos (by omega),rdL,if_pos (by omega),rd_nat,if_pos (show (M.getD i []).getD c 0=0 from hz),step1 (by omega)]
      · have e:sweep1 m c k0 i M=M.set i (addR m (at2 M i c) (M.getD i []) (M.getD k0 [])):=by unfold El.sweep1;rw [if_neg (fun h=>h.elim hik hz)]
        have hok:=sweep1_ok (m:=m) (c:=c) (k:=k0) (i:=i) (by omega) hM (by omega) hk
        rw [e] at h hok
        have hat:=at2_in (by omega) hM i c
        have hadd:=added_ev Mm (b:=-at2 M i c) (by omega) (M.getD i []) (M.getD k0 []) (by omega) (by omega) (rowOk_sml hm.2 (matOk_at hM (by omega))) (rowOk_sml hm.2 (matOk_at hM (by omega)))
        rw [addB_addR] at hadd
        obtain ⟨K,ha⟩:=hadd
        have h2:=ih (i+1) _ hok (by rw [List.length_set];exact hl) (by rw [List.length_set];exact hk) (by rw [List.length_set];omega) h
        rw [List.length_set] at h2
        refine Ev.succ h2 K fun k hkk=>?_
        have ha':=ha k hkk
        simp only at ha'
        have hat':(M.getD i []).getD c 0=at2 M i c:=rfl
        rw [impl_eliminate.l2,if_pos (by omega),if_neg (by omega),if_pos (by omega),if_pos (by omega),if_pos (by omega),rdL,if_pos (by omega),rd_nat,if_neg (show ¬ (M.getD i []).getD c 0=0 from hz),if_pos (by omega),if_pos (by omega),hat',Bt.wrap_id (by omega) (by omega),rdL,ha',Option.bind_some,step1 (by omega),Int.toNat_natCast]
theorem scale_ev {c k0 n:Nat} {pl:List Int} {det:Int} {r:List (List Int) × List Int × Int} (hw:w≤1000) (hc:c< w) (hpl:pl.length≤1000) (hn:c≤900) {M:List (List Int)} (hM:matOk m w M=true) (hl:M.length≤100) (hk:k0< M.length) (hdet:0≤det∧det< m)
    (h:Ev (fun k=>impl_eliminate.l0 k (sweep m c k0 (scaleAt m M k0 (inv (at2 M k0 c) m)).length 0 (scaleAt m M k0 (inv (at2 M k0 c) m))) m (n:Int) ((c+1:Nat):Int) (pl++[(c:Int)]) (det*at2 M k0 c % m)) r):
    Ev (fun k=>impl_eliminate.j3 k M m (c:Int) (k0:Int) (n:Int) (c:Int) pl det) r:=by
  have hm:=mod_small Mm
  have hlenk:=len_at hM hk
  have hat:=at2_in (by omega) hM k0 c
  have hinv:0≤inv (at2 M k0 c) m∧inv (at2 M k0 c) m≤6:=by
    unfold El.inv
    repeat' split
    all_goals omega
  have hp:=prod_le (x:=det) (y:=at2 M k0 c) (by omega) (by omega)
  have hpp:0≤det*at2 M k0 c:=Int.mul_nonneg hdet.1 hat.1
  obtain ⟨K,hs⟩:=scaled_ev Mm (u:=inv (at2 M k0 c) m) (by omega) (M.getD k0 []) (by omega) (rowOk_sml hm.2 (matOk_at hM hk))
  have h2:=sweep_ev Mm hw hc hpl hn _ 0 _ (scaleAt_ok (u:=inv (at2 M k0 c) m) (by omega) hM hk) (by rw [scaleAt_len];exact hl) (by rw [scaleAt_len];exact hk) (by omega) h
  rw [scaleAt_len] at h2
  refine Ev.succ h2 (K+8) fun k hkk=>?_
  have hs':=hs k (by omega)
  simp only at hs'
  have hat':(M.getD k0 []).getD c 0=at2 M k0 c:=rfl
  rw [impl_eliminate.j3,if_pos (by omega),if_pos (by omega),if_pos (by omega),rdL,if_pos (by omega),if_neg (by omega),rd_nat,hat',inverse_ev Mm hat.1 hat.2 k (by omega),Option.bind_some,hs',Option.bind_some,Bt.wrap_id (by omega) (by omega),tmod_val hpp,Int.toNat_natCast]
  rfl
theorem pivot_ev {c n:Nat} {pl:List Int} {det:Int} {r:List (List Int) × List Int × Int} (hw:w≤1000) (hc:c< w) (hpl:pl.length≤1000) (hn:c≤900) {M:List (List Int)} (hM:matOk m w M=true) (hl:M.length≤100) {p:Nat} (hkp:pl.length≤p) (hp:p< M.length) (hdet:0≤det∧det< m)
    (h:Ev (fun k=>impl_eliminate.l0 k (pivot m c pl.length p M) m (n:Int) ((c+1:Nat):Int) (pl++[(c:Int)]) (det1 m c pl.length p M det)) r):
    Ev (fun k=>impl_eliminate.j2 k M m (c:Int) (pl.length:Int) (p:Int) (n:Int) (c:Int) pl det) r:=by
  have hm:=mod_small Mm
  by_cases hpk:p=pl.length
  · subst hpk
    have e1:pivot m c pl.length pl.length M=sweep m c pl.length (scaleAt m M pl.length (inv (at2 M pl.length c) m)).length 0 (scaleAt m M pl.length (inv (at2 M pl.length c) m)):=by
      simp only [El.pivot];rw [swapR_self hp]
    have e2:det1 m c pl.length pl.length M det=det*at2 M pl.length c % m:=by
      unfold El.det1;rw [if_pos rfl,swapR_self hp]
    rw [e1,e2] at h
    refine Ev.succ (scale_ev Mm hw hc hpl hn hM hl hp hdet h) 0 fun k _=>?_
    rw [impl_eliminate.j2,if_neg (by omega),if_pos rfl]
  · have hS:=swapR_ok hM hp (show pl.length< M.length by omega)
    have e1:pivot m c pl.length p M=sweep m c pl.length (scaleAt m (swapR M p pl.length) pl.length (inv (at2 (swapR M p pl.length) pl.length c) m)).length 0 (scaleAt m (swapR M p pl.length) pl.length (inv (at2 (swapR M p pl.length) pl.length c) m)):=rfl
    have e2:det1 m c pl.length p M det=(m - det) % m*at2 (swapR M p pl.length) pl.length c % m:=by
      unfold El.det1;rw [if_neg hpk]
    rw [e1,e2] at h
    have hd2:0≤(m - det) % m∧(m - det) % m< m:=⟨Int.emod_nonneg _ (by omega),Int.emod_lt_of_pos _ (by omega)⟩
    refine Ev.succ (scale_ev Mm hw hc hpl hn hS (by rw [swapR_len];exact hl) (by rw [swapR_len];omega) hd2 h) 0 fun k _=>?_
    rw [impl_eliminate.j2,if_neg (by omega),if_neg (by omega),rowAt_val hp,Option.bind_some,rowAt_val (show pl.length< M.length by omega),Option.bind_some,if_pos (by omega),if_pos (by omega),if_pos (by omega),if_pos (by omega),Bt.wrap_id (by omega) (by omega),mod_val hm.1 hm.2 (by omega) (by omega),Option.bind_some,Int.toNat_natCast,Int.toNat_natCast]
    rw [show (m - det) % m=-det % m by rw [show m - det=-det+m by omega,Int.add_emod_right]]
    rfl
theorem elim_ev {n:Nat} (hw:w≤900) (hn:n≤w):∀ (d c:Nat) (M:List (List Int)) (pl:List Int) (det:Int),c+d=n→matOk m w M=true→M.length≤100→pl.length≤M.length→0≤det∧det< m→
    Ev (fun k=>impl_eliminate.l0 k M m (n:Int) (c:Int) pl det) (elim m d c M pl det):=by
  have hm:=mod_small Mm
  intro d
  induction d with
  |zero=>
    intro c M pl det hc hM hl hpl hdet
    refine Ev.konst 1 fun k hk=>?_
    obtain ⟨k,rfl⟩:∃ m,k=m+1:=⟨k - 1,by omega⟩
    rw [impl_eliminate.l0,if_neg (by omega)]
    rfl
  |succ d ih=>
    intro c M pl det hc hM hl hpl hdet
    have hf:=find_le (M:=M) (c:=c) hpl
    have hg:=find_ge M c pl.length
    suffices h:Ev (fun k=>impl_eliminate.j2 k M m (c:Int) (pl.length:Int) ((find M c pl.length:Nat):Int) (n:Int) (c:Int) pl det) (elim m (d+1) c M pl det) by
      refine Ev.succ (find_ev hM hl (show c< w by omega) (M.length - pl.length) pl.length (by omega) h) 0 fun k _=>?_
      rw [impl_eliminate.l0,if_pos (by omega)]
    simp only [elim]
    by_cases hlt:find M c pl.length< M.length
    · rw [if_pos hlt]
      refine pivot_ev Mm (by omega) (by omega) (by omega) (by omega) hM hl hg hlt hdet ?_
      refine ih (c+1) _ _ _ (by omega) (pivot_ok (by omega) hM hlt (by omega)) (by rw [pivot_len];exact hl) (by rw [pivot_len,List.length_append,List.length_singleton];omega) ?_
      unfold El.det1
      exact ⟨Int.emod_nonneg _ (by omega),Int.emod_lt_of_pos _ (by omega)⟩
    · rw [if_neg hlt]
      refine Ev.succ (ih (c+1) M pl 0 (by omega) hM hl hpl (by omega)) 0 fun k _=>?_
      rw [impl_eliminate.j2,if_pos (by omega),step1 (by omega)]
theorem eliminate_ev {n:Nat} (hw:w≤900) (hn:n≤w) {M:List (List Int)} (hM:matOk m w M=true) (hl:M.length≤100):Ev (fun k=>impl_eliminate.f k M (n:Int) m) (elim m n 0 M [] 1):=by
  have hm:=mod_small Mm
  exact elim_ev Mm hw hn n 0 M [] 1 (by omega) hM hl (by simp) (by omega)
end impl
/-! ### the stating side, which writes element by element -/
def mix (A B:List Int) (j:Nat):List Int:=A.take j++B.drop j
theorem mix_zero (A B:List Int):mix A B 0=B:=by simp [mix]
theorem mix_end {A B:List Int} (h:A.length=B.length):mix A B B.length=A:=by simp [mix,← h]
theorem mix_len {A B:List Int} (h:A.length=B.length) (j:Nat):(mix A B j).length=B.length:=by simp [mix];omega
theorem mix_get {A B:List Int} (h:A.length=B.length) {j:Nat} (hj:j< B.length):(mix A B j).getD j 0=B.getD j 0:=by
  have h1:(A.take j).length=j:=by rw [List.length_take];omega
  rw [List.getD_eq_getElem?_getD,List.getD_eq_getElem?_getD,mix,List.getElem?_append_right (by omega),h1,Nat.sub_self,List.getElem?_drop,Nat.add_zero]
theorem mix_set {A B:List Int} (h:A.length=B.length) {j:Nat} (hj:j< B.length):(mix A B j).set j (A.getD j 0)=mix A B (j+1):=by
  have h1:(A.take j).length=j:=by rw [List.length_take];omega
  rw [mix,List.set_append_right _ _ (by omega),h1,Nat.sub_self,List.drop_eq_getElem_cons hj,List.set_cons_zero,mix,List.take_succ_eq_append_getElem (by omega),List.append_assoc,List.getD_eq_getElem?_getD,List.getElem?_eq_getElem (by omega)]
  rfl
theorem set_getD (M:List (List Int)) (i:Nat):M.set i (M.getD i [])=M:=by
  rcases Nat.lt_or_ge i M.length with h|h
  · rw [List.getD_eq_getElem?_getD,List.getElem?_eq_getElem h];simp
  · rw [List.set_eq_of_length_le h]
section spec
variable {m:Int} {w:Nat} (Mm:IsMod m)
theorem copy_ev {n:Int} {r:List (List Int) × List Int × Int} {M:List (List Int)} (hl:M.length≤100) (hM:∀ x ∈ M,x.length≤100):∀ (d i:Nat),i+d=M.length→
    Ev (fun k=>spec_clSteps.l1 k m n M [] 1 0 0) r→Ev (fun k=>spec_clSteps.l0 k m n (M.take i) M (M.length:Int) (i:Int)) r:=by
  intro d
  induction d with
  |zero=>
    intro i hi h
    refine Ev.succ h 0 fun k _=>?_
    rw [spec_clSteps.l0,if_neg (by omega),List.take_of_length_le (by omega)]
  |succ d ih=>
    intro i hi h
    have ht:M.take (i+1)=M.take i++[M.getD i []]:=by
      rw [List.take_succ_eq_append_getElem (by omega),List.getD_eq_getElem?_getD,List.getElem?_eq_getElem (by omega)];rfl
    have hx:(M.getD i []).length≤100:=by
      rw [List.getD_eq_getElem?_getD,List.getElem?_eq_getElem (by omega)]
      exact hM _ (List.getElem_mem _)
    refine Ev.succ (ih (i+1) (by omega) h) 0 fun k _=>?_
    have hlt:(M.take i).length=i:=by rw [List.length_take];omega
    have ho:spec_l1Own.f (M.getD i [])=some (M.getD i []):=by
      unfold spec_l1Own.f
      rw [Option.bind_some,if_pos (by simp only [List.length_nil];omega)];rfl
    rw [spec_clSteps.l0,if_pos (by omega),if_pos (by omega),if_pos (by omega),rdL,ho,Option.bind_some,if_pos (by omega),step1 (by omega),ht]
theorem sfind_ev {c k0 n:Nat} {pl:List Int} {det:Int} {r:List (List Int) × List Int × Int} {M:List (List Int)} (hM:matOk m w M=true) (hl:M.length≤100) (hc:c< w):∀ (d p:Nat),p+d=M.length→
    Ev (fun k=>spec_clSteps.j3 k m (n:Int) M pl det (k0:Int) (c:Int) ((find M c p:Nat):Int)) r→
    Ev (fun k=>spec_clSteps.l2 k m (n:Int) M pl det (k0:Int) (c:Int) (p:Int)) r:=by
  intro d
  induction d with
  |zero=>
    intro p hp h
    rw [find_end (by omega)] at h
    refine Ev.succ h 0 fun k _=>?_
    rw [spec_clSteps.l2,if_neg (by omega)]
  |succ d ih=>
    intro p hp h
    have hlen:=len_at hM (i:=p) (by omega)
    by_cases hz:at2 M p c=0
    · rw [find_next (by omega) hz] at h
      refine Ev.succ (ih (p+1) (by omega) h) 0 fun k _=>?_
      rw [spec_clSteps.l2,if_pos (by omega),if_pos (by omega),if_pos (by omega),rdL,if_pos (by omega),rd_nat,if_pos (show (M.getD p []).getD c 0=0 from hz),step1 (by omega)]
    · rw [find_here (by omega) hz] at h
      refine Ev.succ h 0 fun k _=>?_
      rw [spec_clSteps.l2,if_pos (by omega),if_pos (by omega),if_pos (by omega),rdL,if_pos (by omega),rd_nat,if_neg (show ¬ (M.getD p []).getD c 0=0 from hz)]
include Mm
/-- one row of the sweep, element by element -/
theorem srow_ev {c k0 n i:Nat} {f:Int} {pl:List Int} {det:Int} {r:List (List Int) × List Int × Int} {M:List (List Int)} (hM:matOk m w M=true) (hl:M.length≤100) (hw:w≤100) (hi:i< M.length) (hk:k0< M.length) (hik:i≠k0) (hf:0≤f∧f< m)
    (h:Ev (fun k=>spec_clSteps.l4 k m (n:Int) (M.set i (addR m f (M.getD i []) (M.getD k0 []))) pl det (k0:Int) (c:Int) (M.length:Int) ((i+1:Nat):Int)) r):∀ (d j:Nat),j+d=w→
    Ev (fun k=>spec_clSteps.l5 k m (n:Int) (M.set i (mix (addR m f (M.getD i []) (M.getD k0 [])) (M.getD i []) j)) pl det (k0:Int) (c:Int) (i:Int) f (M.length:Int) (i:Int) (w:Int) (j:Int)) r:=by
  have hm:=mod_small Mm
  have hli:=len_at hM hi
  have hlk:=len_at hM hk
  have hla:(addR m f (M.getD i []) (M.getD k0 [])).length=(M.getD i []).length:=by simp only [addR,List.length_zipWith];omega
  intro d
  induction d with
  |zero=>
    intro j hj
    refine Ev.succ h 0 fun k _=>?_
    have:j=(M.getD i []).length:=by omega
    rw [spec_clSteps.l5,if_neg (by omega),this,mix_end hla,step1 (by omega)]
  |succ d ih=>
    intro j hj
    have hg1:(M.set i (mix (addR m f (M.getD i []) (M.getD k0 [])) (M.getD i []) j)).getD i []=mix (addR m f (M.getD i []) (M.getD k0 [])) (M.getD i []) j:=El.getD_set_self hi
    have hg2:(M.set i (mix (addR m f (M.getD i []) (M.getD k0 [])) (M.getD i []) j)).getD k0 []=M.getD k0 []:=El.getD_set_ne hik
    have hml:=mix_len hla j
    have hgj:=mix_get hla (j:=j) (by omega)
    have hsj:=mix_set hla (j:=j) (by omega)
    have hx:=(rowOk_getD (by omega) (matOk_at hM hi) j)
    have hy:=(rowOk_getD (by omega) (matOk_at hM hk) j)
    have hp:=prod_le (x:=m - f) (y:=(M.getD k0 []).getD j 0) (by omega) (by omega)
    have hpp:0≤(m - f)*(M.getD k0 []).getD j 0:=Int.mul_nonneg (by omega) hy.1
    rw [addR_getD (by omega) (by omega)] at hsj
    refine Ev.succ (ih (j+1) (by omega)) 0 fun k _=>?_
    rw [spec_clSteps.l5,if_pos (by omega),if_pos (by omega),if_pos (by simp;omega),if_pos (by omega),rdL,rdL,hg1,hg2,if_pos (by omega),if_pos (by omega),if_pos (by simp;omega),if_pos (by omega),if_neg (by omega),rd_nat,rd_nat,hgj,Bt.wrap_id (x:=m - f) (by omega) (by omega),Bt.wrap_id (x:=(m - f)*_) (by omega) (by omega),Bt.wrap_id (by omega) (by omega),tmod_val (by omega),Int.toNat_natCast,Int.toNat_natCast,hsj,List.set_set,step1 (by omega)]
theorem ssweep_ev {c k0 n:Nat} {pl:List Int} {det:Int} {r:List (List Int) × List Int × Int} (hw:w≤100) (hc:c< w) (hpl:pl.length≤1000) (hk9:k0≤900):∀ (d i:Nat) (M:List (List Int)),matOk m w M=true→M.length≤100→k0< M.length→i+d=M.length→
    Ev (fun k=>spec_clSteps.l1 k m (n:Int) (sweep m c k0 d i M) (pl++[(c:Int)]) det ((k0+1:Nat):Int) ((c+1:Nat):Int)) r→
    Ev (fun k=>spec_clSteps.l4 k m (n:Int) M pl det (k0:Int) (c:Int) (M.length:Int) (i:Int)) r:=by
  have hm:=mod_small Mm
  intro d
  induction d with
  |zero=>
    intro i M hM hl hk hi h
    refine Ev.succ h 0 fun k _=>?_
    rw [spec_clSteps.l4,if_neg (by omega),if_pos (by omega),step1 (by omega),step1 (by omega)]
    rfl
  |succ d ih=>
    intro i M hM hl hk hi h
    have hleni:=len_at hM (i:=i) (by omega)
    have hlenk:=len_at hM (i:=k0) (by omega)
    have hat:=at2_in (show 0< m by omega) hM i c
    rw [El.sweep] at h
    by_cases hik:i=k0
    · have e:sweep1 m c k0 i M=M:=by unfold El.sweep1;rw [if_pos (.inl hik)]
      rw [e] at h
      refine Ev.succ (g:=fun k=>spec_clSteps.j7 k m (n:Int) M pl det (k0:Int) (c:Int) (i:Int) (at2 M i c) (M.length:Int) (i:Int) true) (Ev.succ (ih (i+1) M hM hl hk (by omega) h) 0 fun k _=>?_) 0 fun k _=>?_
      · rw [spec_clSteps.j7,if_pos rfl,step1 (by omega)]
      · rw [spec_clSteps.l4,if_pos (by omega),if_pos (by omega),if_pos (by omega),if_pos (by omega),rdL,if_pos (by omega),rd_nat,if_pos (by omega)];rfl
    · by_cases hz:at2 M i c=0
      · have e:sweep1 m c k0 i M=M:=by unfold El.sweep1;rw [if_pos (.inr hz)]
        rw [e] at h
        have hzz:((M.getD i []).getD c 0==0)=true:=by rw [show (M.getD i []).getD c 0=0 from hz];rfl
        refine Ev.succ (g:=fun k=>spec_clSteps.j7 k m (n:Int) M pl det (k0:Int) (c:Int) (i:Int) (at2 M i c) (M.length:Int) (i:Int) true) (Ev.succ (ih (i+1) M hM hl hk (by omega) h) 0 fun k _=>?_) 0 fun k _=>?_
        · rw [spec_clSteps.j7,if_pos rfl,step1 (by omega)]
        · rw [spec_clSteps.l4,if_pos (by omega),if_pos (by omega),if_pos (by omega),if_pos (by omega),rdL,if_pos (by omega),rd_nat,if_neg (by omega),hzz];rfl
      · have e:sweep1 m c k0 i M=M.set i (addR m (at2 M i c) (M.getD i []) (M.getD k0 [])):=by unfold El.sweep1;rw [if_neg (fun h=>h.elim hik hz)]
        have hok:=sweep1_ok (m:=m) (c:=c) (k:=k0) (i:=i) (by omega) hM (by omega) hk
        rw [e] at h hok
        have hzz:((M.getD i []).getD c 0==0)=false:=by rw [beq_eq_false_iff_ne];exact hz
        have h2:=ih (i+1) _ hok (by rw [List.length_set];exact hl) (by rw [List.length_set];exact hk) (by rw [List.length_set];omega) h
        rw [List.length_set] at h2
        have h3:=srow_ev Mm (c:=c) (n:=n) (pl:=pl) (det:=det) (r:=r) hM hl hw (show i< M.length by omega) hk hik hat h2 w 0 (by omega)
        rw [mix_zero,set_getD] at h3
        refine Ev.succ (g:=fun k=>spec_clSteps.j7 k m (n:Int) M pl det (k0:Int) (c:Int) (i:Int) (at2 M i c) (M.length:Int) (i:Int) false) (Ev.succ h3 0 fun k _=>?_) 0 fun k _=>?_
        · rw [spec_clSteps.j7,if_neg (by simp),if_pos (by omega),if_pos (by omega),rdL,hleni];rfl
        · rw [spec_clSteps.l4,if_pos (by omega),if_pos (by omega),if_pos (by omega),if_pos (by omega),rdL,if_pos (by omega),rd_nat,if_neg (by omega),hzz];rfl
theorem sscale_row {c k0 n:Nat} {u:Int} {pl:List Int} {det:Int} {r:List (List Int) × List Int × Int} {M:List (List Int)} (hM:matOk m w M=true) (hl:M.length≤100) (hw:w≤100) (hk:k0< M.length) (hu:0≤u∧u≤6)
    (h:Ev (fun k=>spec_clSteps.l4 k m (n:Int) (scaleAt m M k0 u) pl det (k0:Int) (c:Int) (M.length:Int) 0) r):∀ (d j:Nat),j+d=w→
    Ev (fun k=>spec_clSteps.l3 k m (n:Int) (M.set k0 (mix (scaleR m u (M.getD k0 [])) (M.getD k0 []) j)) pl det (k0:Int) (c:Int) u (w:Int) (j:Int)) r:=by
  have hm:=mod_small Mm
  have hlk:=len_at hM hk
  have hla:(scaleR m u (M.getD k0 [])).length=(M.getD k0 []).length:=by simp only [scaleR,List.length_map]
  intro d
  induction d with
  |zero=>
    intro j hj
    refine Ev.succ h 0 fun k _=>?_
    have:j=(M.getD k0 []).length:=by omega
    rw [spec_clSteps.l3,if_neg (by omega),this,mix_end hla,List.length_set];rfl
  |succ d ih=>
    intro j hj
    have hg1:(M.set k0 (mix (scaleR m u (M.getD k0 [])) (M.getD k0 []) j)).getD k0 []=mix (scaleR m u (M.getD k0 [])) (M.getD k0 []) j:=El.getD_set_self hk
    have hml:=mix_len hla j
    have hgj:=mix_get hla (j:=j) (by omega)
    have hsj:=mix_set hla (j:=j) (by omega)
    have hy:=(rowOk_getD (by omega) (matOk_at hM hk) j)
    have hp:=prod_le (x:=(M.getD k0 []).getD j 0) (y:=u) (by omega) (by omega)
    have hpp:0≤(M.getD k0 []).getD j 0*u:=Int.mul_nonneg hy.1 hu.1
    rw [scaleR_getD] at hsj
    refine Ev.succ (ih (j+1) (by omega)) 0 fun k _=>?_
    rw [spec_clSteps.l3,if_pos (by omega),if_pos (by omega),if_pos (by simp;omega),if_pos (by omega),rdL,hg1,if_pos (by omega),if_neg (by omega),rd_nat,hgj,Bt.wrap_id (by omega) (by omega),tmod_val (by omega),Int.toNat_natCast,Int.toNat_natCast,hsj,List.set_set,step1 (by omega)]
theorem sscale_ev {c k0 n:Nat} {pl:List Int} {det:Int} {r:List (List Int) × List Int × Int} (hw:w≤100) (hc:c< w) (hpl:pl.length≤1000) (hk9:k0≤900) {M:List (List Int)} (hM:matOk m w M=true) (hl:M.length≤100) (hk:k0< M.length) (hdet:0≤det∧det< m) (hne:at2 M k0 c≠0)
    (h:Ev (fun k=>spec_clSteps.l1 k m (n:Int) (sweep m c k0 (scaleAt m M k0 (inv (at2 M k0 c) m)).length 0 (scaleAt m M k0 (inv (at2 M k0 c) m))) (pl++[(c:Int)]) (det*at2 M k0 c % m) ((k0+1:Nat):Int) ((c+1:Nat):Int)) r):
    Ev (fun k=>spec_clSteps.j4 k m (n:Int) M pl det (k0:Int) (c:Int)) r:=by
  have hm:=mod_small Mm
  have hlenk:=len_at hM hk
  have hat:=at2_in (by omega) hM k0 c
  have hinv:0≤inv (at2 M k0 c) m∧inv (at2 M k0 c) m≤6:=by
    unfold El.inv
    repeat' split
    all_goals omega
  have hp:=prod_le (x:=det) (y:=at2 M k0 c) (by omega) (by omega)
  have hpp:0≤det*at2 M k0 c:=Int.mul_nonneg hdet.1 hat.1
  have h2:=ssweep_ev Mm hw hc hpl hk9 _ 0 _ (scaleAt_ok (u:=inv (at2 M k0 c) m) (by omega) hM hk) (by rw [scaleAt_len];exact hl) (by rw [scaleAt_len];exact hk) (by omega) h
  rw [scaleAt_len] at h2
  have h3:=sscale_row Mm (c:=c) (n:=n) (pl:=pl) (r:=r) hM hl hw hk hinv h2 w 0 (by omega)
  rw [mix_zero,set_getD] at h3
  refine Ev.succ h3 8 fun k hkk=>?_
  have hat':(M.getD k0 []).getD c 0=at2 M k0 c:=rfl
  rw [spec_clSteps.j4,if_pos (by omega),if_pos (by omega),if_pos (by omega),rdL,if_pos (by omega),if_neg (by omega),rd_nat,hat',clInverse_ev Mm (by omega) hat.2 k (by omega),Option.bind_some,Bt.wrap_id (by omega) (by omega),tmod_val hpp,hlenk]
  rfl
omit Mm in
theorem swap_comm {M:List (List Int)} {p k:Nat} (h:p≠k):(M.set k (M.getD p [])).set p (M.getD k [])=swapR M p k:=by
  unfold El.swapR;rw [List.set_comm _ _ h]
theorem spivot_ev {c n:Nat} {pl:List Int} {det:Int} {r:List (List Int) × List Int × Int} (hw:w≤100) (hc:c< w) (hpl:pl.length≤100) {M:List (List Int)} (hM:matOk m w M=true) (hl:M.length≤100) {p:Nat} (hkp:pl.length≤p) (hp:p< M.length) (hdet:0≤det∧det< m) (hne:at2 M p c≠0)
    (h:Ev (fun k=>spec_clSteps.l1 k m (n:Int) (pivot m c pl.length p M) (pl++[(c:Int)]) (det1 m c pl.length p M det) ((pl.length+1:Nat):Int) ((c+1:Nat):Int)) r):
    Ev (fun k=>spec_clSteps.j3 k m (n:Int) M pl det (pl.length:Int) (c:Int) (p:Int)) r:=by
  have hm:=mod_small Mm
  by_cases hpk:p=pl.length
  · subst hpk
    have e1:pivot m c pl.length pl.length M=sweep m c pl.length (scaleAt m M pl.length (inv (at2 M pl.length c) m)).length 0 (scaleAt m M pl.length (inv (at2 M pl.length c) m)):=by
      simp only [El.pivot];rw [swapR_self hp]
    have e2:det1 m c pl.length pl.length M det=det*at2 M pl.length c % m:=by
      unfold El.det1;rw [if_pos rfl,swapR_self hp]
    rw [e1,e2] at h
    refine Ev.succ (sscale_ev Mm hw hc (by omega) (by omega) hM hl hp hdet hne h) 0 fun k _=>?_
    rw [spec_clSteps.j3,if_neg (by omega),if_pos rfl]
  · have hS:=swapR_ok hM hp (show pl.length< M.length by omega)
    have e1:pivot m c pl.length p M=sweep m c pl.length (scaleAt m (swapR M p pl.length) pl.length (inv (at2 (swapR M p pl.length) pl.length c) m)).length 0 (scaleAt m (swapR M p pl.length) pl.length (inv (at2 (swapR M p pl.length) pl.length c) m)):=rfl
    have e2:det1 m c pl.length p M det=(m - det) % m*at2 (swapR M p pl.length) pl.length c % m:=by
      unfold El.det1;rw [if_neg hpk]
    rw [e1,e2] at h
    have hd2:0≤(m - det) % m∧(m - det) % m< m:=⟨Int.emod_nonneg _ (by omega),Int.emod_lt_of_pos _ (by omega)⟩
    refine Ev.succ (sscale_ev Mm hw hc (by omega) (by omega) hS (by rw [swapR_len];exact hl) (by rw [swapR_len];omega) hd2 (by rw [swapR_at2 (by omega)];exact hne) h) 0 fun k _=>?_
    rw [spec_clSteps.j3,if_neg (by omega),if_neg (by omega),rowAt_val hp,Option.bind_some,rowAt_val (show pl.length< M.length by omega),Option.bind_some,if_pos (by omega),if_pos (by omega),if_pos (by omega),if_pos (by omega),if_neg (by omega),Bt.wrap_id (by omega) (by omega),tmod_val (by omega),Int.toNat_natCast,Int.toNat_natCast,swap_comm hpk]
def cut (r:List (List Int) × List Int × Int):List (List Int) × List Int × Int:=(r.1.take r.2.1.length,r.2.1,r.2.2)
theorem steps_ev {n:Nat} (hw:w≤100) (hn:n≤w):∀ (d c:Nat) (M:List (List Int)) (pl:List Int) (det:Int),c+d=n→matOk m w M=true→M.length≤100→pl.length≤M.length→0≤det∧det< m→
    Ev (fun k=>spec_clSteps.l1 k m (n:Int) M pl det (pl.length:Int) (c:Int)) (cut (elim m d c M pl det)):=by
  have hm:=mod_small Mm
  intro d
  induction d with
  |zero=>
    intro c M pl det hc hM hl hpl hdet
    refine Ev.konst 1 fun k hk=>?_
    obtain ⟨k,rfl⟩:∃ m,k=m+1:=⟨k - 1,by omega⟩
    rw [spec_clSteps.l1,if_neg (by omega),if_pos (by omega),if_pos (by omega),Int.toNat_natCast]
    rfl
  |succ d ih=>
    intro c M pl det hc hM hl hpl hdet
    have hf:=find_le (M:=M) (c:=c) hpl
    have hg:=find_ge M c pl.length
    suffices h:Ev (fun k=>spec_clSteps.j3 k m (n:Int) M pl det (pl.length:Int) (c:Int) ((find M c pl.length:Nat):Int)) (cut (elim m (d+1) c M pl det)) by
      refine Ev.succ (sfind_ev hM hl (show c< w by omega) (M.length - pl.length) pl.length (by omega) h) 0 fun k _=>?_
      rw [spec_clSteps.l1,if_pos (by omega)]
    simp only [elim]
    by_cases hlt:find M c pl.length< M.length
    · rw [if_pos hlt]
      refine spivot_ev Mm (by omega) (by omega) (by omega) hM hl hg hlt hdet (find_at _ _ rfl hlt) ?_
      have h2:=ih (c+1) (pivot m c pl.length (find M c pl.length) M) (pl++[(c:Int)]) (det1 m c pl.length (find M c pl.length) M det) (by omega) (pivot_ok (by omega) hM hlt (by omega)) (by rw [pivot_len];exact hl) (by rw [pivot_len,List.length_append,List.length_singleton];omega) (by
        unfold El.det1
        exact ⟨Int.emod_nonneg _ (by omega),Int.emod_lt_of_pos _ (by omega)⟩)
      rw [List.length_append,List.length_singleton] at h2
      exact h2
    · rw [if_neg hlt]
      refine Ev.succ (ih (c+1) M pl 0 (by omega) hM hl hpl (by omega)) 0 fun k _=>?_
      rw [spec_clSteps.j3,if_pos (by omega),step1 (by omega)]
theorem clSteps_ev {n:Nat} (hw:w≤100) (hn:n≤w) {M:List (List Int)} (hM:matOk m w M=true) (hl:M.length≤100):Ev (fun k=>spec_clSteps.f k M m (n:Int)) (cut (elim m n 0 M [] 1)):=by
  have hm:=mod_small Mm
  have h:=steps_ev Mm hw hn n 0 M [] 1 (by omega) hM hl (by simp) (by omega)
  have h2:=copy_ev (m:=m) (n:=(n:Int)) (M:=M) hl (fun x hx=>by have:=(rowOk_iff.1 (matOk_iff.1 hM x hx)).1;omega) M.length 0 (by omega) h
  exact h2
end spec
end Go.Proofs.Ytbbdjoahdbjljaa.Ef
