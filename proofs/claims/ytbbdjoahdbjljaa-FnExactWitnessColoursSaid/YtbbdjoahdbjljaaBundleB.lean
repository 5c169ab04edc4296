/- Rows of numbers brought to steps, modulo a small prime: what the two sides compute, in plain Lean. Rows brought to steps: fewer columns, one column more, the places of the steps. Rows brought to steps: rows that are independent stay so, and come to as many steps. -/
namespace Go.Proofs.Ytbbdjoahdbjljaa.El
set_option linter.unusedVariables false
set_option linter.unusedSimpArgs false
def isMod (m:Int):Bool:=m==2||m==3||m==5||m==7
theorem isMod_cases {m:Int} (h:isMod m=true):m=2∨m=3∨m=5∨m=7:=by
  simp [isMod] at h
  omega
def rowOk (m:Int) (w:Nat) (r:List Int):Bool:=decide (r.length=w) && r.all fun x=>decide (0≤x) && decide (x< m)
def matOk (m:Int) (w:Nat) (M:List (List Int)):Bool:=M.all (rowOk m w)
def at2 (M:List (List Int)) (i c:Nat):Int:=(M.getD i []).getD c 0
/-- the first row from k on whose number in column c is not 0 -/
def find (M:List (List Int)) (c k:Nat):Nat:=k+((M.drop k).takeWhile fun r=>decide (r.getD c 0=0)).length
def inv (x m:Int):Int:=if x*1 % m=1 then 1 else if x*2 % m=1 then 2 else if x*3 % m=1 then 3 else if x*4 % m=1 then 4 else if x*5 % m=1 then 5 else if x*6 % m=1 then 6 else 0
def scaleR (m u:Int) (r:List Int):List Int:=r.map fun x=>x*u % m
def addR (m f:Int) (r q:List Int):List Int:=List.zipWith (fun x y=>(x+(m - f)*y) % m) r q
def swapR (M:List (List Int)) (p k:Nat):List (List Int):=(M.set p (M.getD k [])).set k (M.getD p [])
def scaleAt (m:Int) (M:List (List Int)) (k:Nat) (u:Int):List (List Int):=M.set k (scaleR m u (M.getD k []))
def sweep1 (m:Int) (c k i:Nat) (M:List (List Int)):List (List Int):=if i=k∨at2 M i c=0 then M else M.set i (addR m (at2 M i c) (M.getD i []) (M.getD k []))
def sweep (m:Int) (c k:Nat):Nat→Nat→List (List Int)→List (List Int)
  |0,_,M=>M
  |d+1,i,M=>sweep m c k d (i+1) (sweep1 m c k i M)
def pivot (m:Int) (c k p:Nat) (M:List (List Int)):List (List Int):=
  let M1:=swapR M p k
  let M2:=scaleAt m M1 k (inv (at2 M1 k c) m)
  sweep m c k M2.length 0 M2
def det1 (m:Int) (c k p:Nat) (M:List (List Int)) (det:Int):Int:=(if p=k then det else (m - det) % m)*at2 (swapR M p k) k c % m
def elim (m:Int):Nat→Nat→List (List Int)→List Int→Int→List (List Int) × List Int × Int
  |0,_,M,pl,det=>(M,pl,det)
  |d+1,c,M,pl,det=>
    if find M c pl.length< M.length then elim m d (c+1) (pivot m c pl.length (find M c pl.length) M) (pl++[(c:Int)]) (det1 m c pl.length (find M c pl.length) M det)
    else elim m d (c+1) M pl 0
/-! ### rows and their numbers -/
theorem rowOk_iff {m:Int} {w:Nat} {r:List Int}:rowOk m w r=true↔r.length=w∧∀ x ∈ r,0≤x∧x< m:=by
  simp [rowOk]
theorem matOk_iff {m:Int} {w:Nat} {M:List (List Int)}:matOk m w M=true↔∀ r ∈ M,rowOk m w r=true:=by simp [matOk]
theorem matOk_at {m:Int} {w:Nat} {M:List (List Int)} (h:matOk m w M=true) {i:Nat} (hi:i< M.length):rowOk m w (M.getD i [])=true:=by
  rw [List.getD_eq_getElem?_getD,List.getElem?_eq_getElem hi]
  exact matOk_iff.1 h _ (List.getElem_mem hi)
theorem matOk_set {m:Int} {w:Nat} {M:List (List Int)} (h:matOk m w M=true) (i:Nat) {r:List Int} (hr:rowOk m w r=true):matOk m w (M.set i r)=true:=by
  rw [matOk_iff]
  intro q hq
  rcases List.mem_or_eq_of_mem_set hq with hq|hq
  · exact matOk_iff.1 h q hq
  · rw [hq];exact hr
theorem rowOk_getD {m:Int} {w:Nat} {r:List Int} (hm:0< m) (h:rowOk m w r=true) (c:Nat):0≤r.getD c 0∧r.getD c 0< m:=by
  rw [List.getD_eq_getElem?_getD]
  rcases Nat.lt_or_ge c r.length with hc|hc
  · rw [List.getElem?_eq_getElem hc]
    exact (rowOk_iff.1 h).2 _ (List.getElem_mem hc)
  · rw [List.getElem?_eq_none hc]
    exact ⟨by simp,by simpa using hm⟩
theorem at2_in {m:Int} {w:Nat} {M:List (List Int)} (hm:0< m) (h:matOk m w M=true) (i c:Nat):0≤at2 M i c∧at2 M i c< m:=by
  unfold at2
  rcases Nat.lt_or_ge i M.length with hi|hi
  · exact rowOk_getD hm (matOk_at h hi) c
  · rw [List.getD_eq_getElem?_getD (l:=M),List.getElem?_eq_none hi]
    exact ⟨by simp,by simpa using hm⟩
theorem scaleR_ok {m u:Int} {w:Nat} {r:List Int} (hm:0< m) (h:r.length=w):rowOk m w (scaleR m u r)=true:=by
  rw [rowOk_iff]
  refine ⟨by simp [scaleR,h],fun x hx=>?_⟩
  simp only [scaleR,List.mem_map] at hx
  obtain ⟨y,_,rfl⟩:=hx
  exact ⟨Int.emod_nonneg _ (by omega),Int.emod_lt_of_pos _ hm⟩
theorem addR_ok {m f:Int} {w:Nat} {r q:List Int} (hm:0< m) (h:r.length=w) (hq:q.length=w):rowOk m w (addR m f r q)=true:=by
  rw [rowOk_iff]
  refine ⟨by simp [addR,h,hq],fun x hx=>?_⟩
  simp only [addR] at hx
  rw [← List.map_uncurry_zip_eq_zipWith] at hx
  simp only [List.mem_map] at hx
  obtain ⟨y,_,rfl⟩:=hx
  exact ⟨Int.emod_nonneg _ (by omega),Int.emod_lt_of_pos _ hm⟩
theorem len_at {m:Int} {w:Nat} {M:List (List Int)} (h:matOk m w M=true) {i:Nat} (hi:i< M.length):(M.getD i []).length=w:=(rowOk_iff.1 (matOk_at h hi)).1
theorem swapR_ok {m:Int} {w p k:Nat} {M:List (List Int)} (h:matOk m w M=true) (hp:p< M.length) (hk:k< M.length):matOk m w (swapR M p k)=true:=matOk_set (matOk_set h p (matOk_at h hk)) k (matOk_at h hp)
theorem swapR_len (M:List (List Int)) (p k:Nat):(swapR M p k).length=M.length:=by simp [swapR]
theorem scaleAt_ok {m u:Int} {w k:Nat} {M:List (List Int)} (hm:0< m) (h:matOk m w M=true) (hk:k< M.length):matOk m w (scaleAt m M k u)=true:=matOk_set h k (scaleR_ok hm (len_at h hk))
theorem scaleAt_len (m:Int) (M:List (List Int)) (k:Nat) (u:Int):(scaleAt m M k u).length=M.length:=by simp [scaleAt]
theorem sweep1_len (m:Int) (c k i:Nat) (M:List (List Int)):(sweep1 m c k i M).length=M.length:=by
  unfold sweep1;split<;>simp
theorem sweep1_ok {m:Int} {w c k i:Nat} {M:List (List Int)} (hm:0< m) (h:matOk m w M=true) (hi:i< M.length) (hk:k< M.length):matOk m w (sweep1 m c k i M)=true:=by
  unfold sweep1
  split
  · exact h
  · exact matOk_set h i (addR_ok hm (len_at h hi) (len_at h hk))
theorem sweep_len (m:Int) (c k d:Nat):∀ (i:Nat) (M:List (List Int)),(sweep m c k d i M).length=M.length:=by
  induction d with
  |zero=>intro i M;rfl
  |succ d ih=>intro i M;rw [sweep,ih,sweep1_len]
theorem sweep_ok {m:Int} {w c k:Nat} (hm:0< m) (d:Nat):∀ (i:Nat) (M:List (List Int)),matOk m w M=true→i+d≤M.length→k< M.length→matOk m w (sweep m c k d i M)=true:=by
  induction d with
  |zero=>intro i M h _ _;exact h
  |succ d ih=>intro i M h hi hk;rw [sweep];exact ih _ _ (sweep1_ok hm h (by omega) hk) (by rw [sweep1_len];omega) (by rw [sweep1_len];exact hk)
theorem pivot_len (m:Int) (c k p:Nat) (M:List (List Int)):(pivot m c k p M).length=M.length:=by simp only [pivot];rw [sweep_len,scaleAt_len,swapR_len]
theorem pivot_ok {m:Int} {w c k p:Nat} {M:List (List Int)} (hm:0< m) (h:matOk m w M=true) (hp:p< M.length) (hk:k< M.length):matOk m w (pivot m c k p M)=true:=by
  simp only [pivot]
  have h1:=swapR_ok h hp hk
  have h2:=scaleAt_ok (u:=inv (at2 (swapR M p k) k c) m) hm h1 (k:=k) (by rw [swapR_len];exact hk)
  exact sweep_ok hm _ _ _ h2 (by omega) (by rw [scaleAt_len,swapR_len];exact hk)
theorem find_ge (M:List (List Int)) (c k:Nat):k≤find M c k:=by unfold find;omega
theorem find_le {M:List (List Int)} {c k:Nat} (hk:k≤M.length):find M c k≤M.length:=by
  unfold find
  have h:((M.drop k).takeWhile fun r=>decide (r.getD c 0=0)).length≤(M.drop k).length:=(List.takeWhile_prefix _).length_le
  rw [List.length_drop] at h
  omega
theorem drop_cons {M:List (List Int)} {k:Nat} (hk:k< M.length):M.drop k=M.getD k []::M.drop (k+1):=by
  rw [List.drop_eq_getElem_cons hk,List.getD_eq_getElem?_getD,List.getElem?_eq_getElem hk];rfl
theorem find_here {M:List (List Int)} {c k:Nat} (hk:k< M.length) (h:at2 M k c≠0):find M c k=k:=by
  unfold find
  rw [drop_cons hk,List.takeWhile_cons_of_neg (by simpa [at2] using h)];rfl
theorem find_next {M:List (List Int)} {c k:Nat} (hk:k< M.length) (h:at2 M k c=0):find M c k=find M c (k+1):=by
  unfold find
  rw [drop_cons hk,List.takeWhile_cons_of_pos (by simpa [at2] using h),List.length_cons];omega
theorem find_end {M:List (List Int)} {c k:Nat} (hk:M.length≤k):find M c k=k:=by
  unfold find;rw [List.drop_eq_nil_of_le hk];rfl
theorem find_at {M:List (List Int)} {c:Nat}:∀ (d k:Nat),M.length - k=d→find M c k< M.length→at2 M (find M c k) c≠0:=by
  intro d
  induction d with
  |zero=>intro k hd h;rw [find_end (by omega)] at h;omega
  |succ d ih=>
    intro k hd h
    by_cases h0:at2 M k c=0
    · rw [find_next (by omega) h0] at h ⊢;exact ih _ (by omega) h
    · rw [find_here (by omega) h0];exact h0
theorem find_zero {M:List (List Int)} {c:Nat}:∀ (d k:Nat),M.length - k=d→∀ i,k≤i→i< find M c k→at2 M i c=0:=by
  intro d
  induction d with
  |zero=>intro k hd i hi h;rw [find_end (by omega)] at h;omega
  |succ d ih=>
    intro k hd i hi h
    by_cases h0:at2 M k c=0
    · rw [find_next (by omega) h0] at h
      by_cases e:i=k
      · rw [e];exact h0
      · exact ih _ (by omega) i (by omega) h
    · rw [find_here (by omega) h0] at h;omega
theorem inv_mul {x m:Int} (hM:isMod m=true) (h0:0≤x) (hx:x< m) (hne:x≠0):x*inv x m % m=1∧0≤inv x m∧inv x m< m:=by
  have hx':x=1∨x=2∨x=3∨x=4∨x=5∨x=6:=by rcases isMod_cases hM with rfl|rfl|rfl|rfl<;>omega
  rcases isMod_cases hM with rfl|rfl|rfl|rfl<;>rcases hx' with rfl|rfl|rfl|rfl|rfl|rfl<;>first|omega|(refine ⟨?_,?_,?_⟩<;>decide)
/-! ### numbers behind each operation -/
theorem getD_set_self {M:List (List Int)} {i:Nat} {r:List Int} (hi:i< M.length):(M.set i r).getD i []=r:=by
  rw [List.getD_eq_getElem?_getD,List.getElem?_set_self hi];rfl
theorem getD_set_ne {M:List (List Int)} {i j:Nat} {r:List Int} (h:i≠j):(M.set i r).getD j []=M.getD j []:=by
  rw [List.getD_eq_getElem?_getD,List.getElem?_set_ne h,List.getD_eq_getElem?_getD]
theorem swapR_k {M:List (List Int)} {p k:Nat} (hk:k< M.length):(swapR M p k).getD k []=M.getD p []:=getD_set_self (by simpa using hk)
theorem swapR_p {M:List (List Int)} {p k:Nat} (hp:p< M.length):(swapR M p k).getD p []=M.getD k []:=by
  by_cases h:k=p
  · subst h;exact swapR_k hp
  · rw [swapR,getD_set_ne h];exact getD_set_self hp
theorem swapR_ne {M:List (List Int)} {p k i:Nat} (h:i≠p) (h':i≠k):(swapR M p k).getD i []=M.getD i []:=by
  rw [swapR,getD_set_ne (Ne.symm h'),getD_set_ne (Ne.symm h)]
theorem swapR_self {M:List (List Int)} {k:Nat} (hk:k< M.length):swapR M k k=M:=by
  unfold swapR
  rw [List.set_set]
  apply List.ext_getElem
  · simp
  · intro i h1 h2
    rw [List.getElem_set]
    split
    · rename_i h;subst h
      rw [List.getD_eq_getElem?_getD,List.getElem?_eq_getElem hk];rfl
    · rfl
theorem scaleR_getD (m u:Int) (r:List Int) (c:Nat):(scaleR m u r).getD c 0=r.getD c 0*u % m:=by
  unfold scaleR
  rw [List.getD_eq_getElem?_getD,List.getD_eq_getElem?_getD,List.getElem?_map]
  cases r[c]?<;>simp
theorem addR_getD {m f:Int} {r q:List Int} {c:Nat} (hc:c< r.length) (hq:c< q.length):(addR m f r q).getD c 0=(r.getD c 0+(m - f)*q.getD c 0) % m:=by
  unfold addR
  simp [List.getD_eq_getElem?_getD,List.getElem?_zipWith,List.getElem?_eq_getElem hc,List.getElem?_eq_getElem hq]
theorem sweep1_k (m:Int) (c k i:Nat) (M:List (List Int)):(sweep1 m c k i M).getD k []=M.getD k []:=by
  unfold sweep1
  split
  · rfl
  · rename_i h;exact getD_set_ne (fun e=>h (.inl e))
theorem sweep1_ne {m:Int} {c k i j:Nat} {M:List (List Int)} (h:i≠j):(sweep1 m c k i M).getD j []=M.getD j []:=by
  unfold sweep1
  split
  · rfl
  · exact getD_set_ne h
theorem sweep_ne {m:Int} {c k j:Nat} (d:Nat):∀ (i:Nat) (M:List (List Int)),j< i∨i+d≤j→(sweep m c k d i M).getD j []=M.getD j []:=by
  induction d with
  |zero=>intro i M _;rfl
  |succ d ih=>intro i M h;rw [sweep,ih _ _ (by omega),sweep1_ne (by omega)]
theorem sweep_at {m:Int} {c k j:Nat} (d:Nat):∀ (i:Nat) (M:List (List Int)),i≤j→j< i+d→(sweep m c k d i M).getD j []=(sweep1 m c k j M).getD j []:=by
  induction d with
  |zero=>intro i M h1 h2;omega
  |succ d ih=>
    intro i M h1 h2
    rw [sweep]
    by_cases e:i=j
    · subst e;rw [sweep_ne _ _ _ (by omega)]
    · rw [ih _ _ (by omega) (by omega)]
      have hk:=sweep1_k m c k i M
      have hj:=sweep1_ne (m:=m) (c:=c) (k:=k) (M:=M) e
      have hl:=sweep1_len m c k i M
      by_cases hjl:j< M.length
      · unfold sweep1 at*
        unfold at2 at*
        generalize (if i=k∨(M.getD i []).getD c 0=0 then M else M.set i (addR m ((M.getD i []).getD c 0) (M.getD i []) (M.getD k [])))=M1 at*
        rw [hj,hk]
        split
        · exact hj
        · rw [getD_set_self (by omega),getD_set_self hjl]
      · have hn:∀ M':List (List Int),M'.length=M.length→M'.getD j []=[]:=fun M' h=>by rw [List.getD_eq_getElem?_getD,List.getElem?_eq_none (by omega)];rfl
        rw [hn _ (by rw [sweep1_len,sweep1_len]),hn _ (by rw [sweep1_len])]
end Go.Proofs.Ytbbdjoahdbjljaa.El
namespace Go.Proofs.Ytbbdjoahdbjljaa.El
set_option linter.unusedVariables false
set_option linter.unusedSimpArgs false
theorem getD_map_take (n:Nat) (M:List (List Int)) (i:Nat):(M.map (List.take n)).getD i []=(M.getD i []).take n:=by
  rw [List.getD_eq_getElem?_getD,List.getD_eq_getElem?_getD,List.getElem?_map]
  cases M[i]?<;>simp
theorem getD_take {n c:Nat} (hc:c< n) (r:List Int):(r.take n).getD c 0=r.getD c 0:=by
  rw [List.getD_eq_getElem?_getD,List.getD_eq_getElem?_getD,List.getElem?_take,if_pos hc]
theorem at2_take {n c:Nat} (hc:c< n) (M:List (List Int)) (i:Nat):at2 (M.map (List.take n)) i c=at2 M i c:=by
  unfold at2;rw [getD_map_take,getD_take hc]
theorem find_take {n c:Nat} (hc:c< n) (M:List (List Int)) (k:Nat):find (M.map (List.take n)) c k=find M c k:=by
  unfold find
  rw [← List.map_drop,List.takeWhile_map,List.length_map]
  congr 3
  funext r
  show decide ((r.take n).getD c 0=0)=_
  rw [getD_take hc]
theorem set_take (n:Nat) (M:List (List Int)) (i:Nat) (r:List Int):(M.map (List.take n)).set i (r.take n)=(M.set i r).map (List.take n):=by rw [List.map_set]
theorem swapR_take (n:Nat) (M:List (List Int)) (p k:Nat):swapR (M.map (List.take n)) p k=(swapR M p k).map (List.take n):=by
  unfold swapR;rw [getD_map_take,getD_map_take,set_take,set_take]
theorem scaleR_take (n:Nat) (m u:Int) (r:List Int):scaleR m u (r.take n)=(scaleR m u r).take n:=by unfold scaleR;rw [List.map_take]
theorem addR_take (n:Nat) (m f:Int) (r q:List Int):addR m f (r.take n) (q.take n)=(addR m f r q).take n:=by unfold addR;rw [List.take_zipWith]
theorem scaleAt_take (n:Nat) (m:Int) (M:List (List Int)) (k:Nat) (u:Int):scaleAt m (M.map (List.take n)) k u=(scaleAt m M k u).map (List.take n):=by
  unfold scaleAt;rw [getD_map_take,scaleR_take,set_take]
theorem sweep1_take {n c:Nat} (hc:c< n) (m:Int) (k i:Nat) (M:List (List Int)):sweep1 m c k i (M.map (List.take n))=(sweep1 m c k i M).map (List.take n):=by
  unfold sweep1
  rw [at2_take hc,getD_map_take,getD_map_take,addR_take,set_take]
  split<;>rfl
theorem sweep_take {n c:Nat} (hc:c< n) (m:Int) (k d:Nat):∀ (i:Nat) (M:List (List Int)),sweep m c k d i (M.map (List.take n))=(sweep m c k d i M).map (List.take n):=by
  induction d with
  |zero=>intro i M;rfl
  |succ d ih=>intro i M;rw [sweep,sweep1_take hc,ih];rfl
theorem pivot_take {n c:Nat} (hc:c< n) (m:Int) (k p:Nat) (M:List (List Int)):pivot m c k p (M.map (List.take n))=(pivot m c k p M).map (List.take n):=by
  simp only [pivot]
  rw [swapR_take,at2_take hc,scaleAt_take,sweep_take hc,List.length_map]
theorem elim_take {n:Nat} (m:Int):∀ (d c:Nat) (M:List (List Int)) (pl:List Int) (det:Int),c+d≤n→
    elim m d c (M.map (List.take n)) pl det=((elim m d c M pl det).1.map (List.take n),(elim m d c M pl det).2):=by
  intro d
  induction d with
  |zero=>intro c M pl det _;rfl
  |succ d ih=>
    intro c M pl det hc
    simp only [elim]
    rw [find_take (by omega),List.length_map,pivot_take (by omega)]
    unfold det1
    rw [swapR_take,at2_take (by omega)]
    split
    · exact ih _ _ _ _ (by omega)
    · exact ih _ _ _ _ (by omega)
/-- The places: rising, below c. -/
def Places (pl:List Int) (c:Nat):Prop:=pl.Pairwise (·< ·)∧∀ x ∈ pl,0≤x∧x< (c:Int)
theorem Places.step {pl:List Int} {c:Nat} (h:Places pl c):Places pl (c+1):=⟨h.1,fun x hx=>by have:=h.2 x hx;omega⟩
theorem Places.snoc {pl:List Int} {c:Nat} (h:Places pl c):Places (pl++[(c:Int)]) (c+1):=by
  refine ⟨?_,fun x hx=>?_⟩
  · rw [List.pairwise_append]
    exact ⟨h.1,by simp,fun x hx y hy=>by rw [List.mem_singleton.1 hy];exact (h.2 x hx).2⟩
  · rcases List.mem_append.1 hx with hx|hx
    · have:=h.2 x hx;omega
    · rw [List.mem_singleton.1 hx];omega
theorem elim_places {m:Int} {w:Nat} (hm:0< m):∀ (d c:Nat) (M:List (List Int)) (pl:List Int) (det:Int),Places pl c→pl.length≤M.length→matOk m w M=true→0≤det∧det< m→
    Places (elim m d c M pl det).2.1 (c+d)∧(elim m d c M pl det).2.1.length≤M.length∧(elim m d c M pl det).1.length=M.length∧matOk m w (elim m d c M pl det).1=true∧0≤(elim m d c M pl det).2.2∧(elim m d c M pl det).2.2< m:=by
  intro d
  induction d with
  |zero=>intro c M pl det h hl hM hd;exact ⟨h,hl,rfl,hM,hd⟩
  |succ d ih=>
    intro c M pl det h hl hM hd
    simp only [elim]
    rw [show c+(d+1)=c+1+d by omega]
    by_cases hf:find M c pl.length< M.length
    · rw [if_pos hf]
      have hge:=find_ge M c pl.length
      have:=ih (c+1) (pivot m c pl.length (find M c pl.length) M) (pl++[(c:Int)]) (det1 m c pl.length (find M c pl.length) M det) h.snoc (by rw [pivot_len,List.length_append];simp;omega) (pivot_ok hm hM hf (by omega))
        (by unfold det1;exact ⟨Int.emod_nonneg _ (by omega),Int.emod_lt_of_pos _ hm⟩)
      rw [pivot_len] at this
      exact this
    · rw [if_neg hf]
      exact ih (c+1) M pl 0 h.step hl hM ⟨by omega,hm⟩
end Go.Proofs.Ytbbdjoahdbjljaa.El
namespace Go.Proofs.Ytbbdjoahdbjljaa.El
set_option linter.unusedVariables false
set_option linter.unusedSimpArgs false
def dot:List Int→(Nat→Int)→Int
  |[],_=>0
  |x::r,v=>x*v 0+dot r (fun c=>v (c+1))
theorem dot_add (t:Int):∀ (r:List Int) (v w:Nat→Int),dot r (fun c=>v c+t*w c)=dot r v+t*dot r w
  |[],_,_=>by simp [dot]
  |x::r,v,w=>by
    simp only [dot]
    rw [dot_add t r (fun c=>v (c+1)) (fun c=>w (c+1))]
    grind
theorem dot_smul (t:Int):∀ (r:List Int) (w:Nat→Int),dot r (fun c=>t*w c)=t*dot r w
  |[],_=>by simp [dot]
  |x::r,w=>by
    simp only [dot]
    rw [dot_smul t r (fun c=>w (c+1))]
    grind
theorem dot_scaleR (m u:Int):∀ (r:List Int) (v:Nat→Int),∃ t,dot (scaleR m u r) v=u*dot r v+m*t
  |[],_=>⟨0,by simp [scaleR,dot]⟩
  |x::r,v=>by
    obtain ⟨t,ht⟩:=dot_scaleR m u r (fun c=>v (c+1))
    have he:=Int.emod_add_mul_ediv (x*u) m
    refine ⟨t - (x*u / m)*v 0,?_⟩
    show x*u % m*v 0+dot (scaleR m u r) (fun c=>v (c+1))=_
    rw [ht]
    simp only [dot]
    grind
theorem dot_addR (m f:Int):∀ (r q:List Int) (v:Nat→Int),q.length=r.length→∃ t,dot (addR m f r q) v=dot r v - f*dot q v+m*t
  |[],[],_,_=>⟨0,by simp [addR,dot]⟩
  |x::r,y::q,v,h=>by
    obtain ⟨t,ht⟩:=dot_addR m f r q (fun c=>v (c+1)) (by simpa using h)
    have he:=Int.emod_add_mul_ediv (x+(m - f)*y) m
    refine ⟨t+y*v 0 - ((x+(m - f)*y) / m)*v 0,?_⟩
    show (x+(m - f)*y) % m*v 0+dot (addR m f r q) (fun c=>v (c+1))=_
    rw [ht]
    simp only [dot]
    grind
theorem dot_zero:∀ (r:List Int) (v:Nat→Int),(∀ c,r.getD c 0=0)→dot r v=0
  |[],_,_=>rfl
  |x::r,v,h=>by
    have h0:x=0:=by simpa using h 0
    simp only [dot]
    rw [dot_zero r _ (fun c=>by simpa using h (c+1)),h0];simp
theorem dot_unit:∀ (r:List Int) (f:Nat),dot r (fun c=>if c=f then 1 else 0)=r.getD f 0
  |[],f=>by simp [dot]
  |x::r,0=>by
    simp only [dot]
    have:dot r (fun c=>if c+1=0 then 1 else 0)=0:=by
      have h:=dot_smul 0 r (fun _=>0)
      have e:(fun c:Nat=>if c+1=0 then (1:Int) else 0)=fun c=>0*(fun _:Nat=>(0:Int)) c:=by
        funext c;simp
      rw [e,h];simp
    rw [this];simp
  |x::r,f+1=>by
    simp only [dot]
    have e:(fun c:Nat=>if c+1=f+1 then (1:Int) else 0)=fun c=>if c=f then 1 else 0:=by
      funext c;simp
    rw [e,dot_unit r f];simp
def delta (i j:Nat):Int:=if i=j then 1 else 0
/-- There are columns of numbers that tell the rows apart. -/
def Dual (m:Int) (M:List (List Int)):Prop:=∃ V:Nat→Nat→Int,∀ i j,i< M.length→j< M.length→∃ t,dot (M.getD i []) (V j)=delta i j+m*t
def tau (p k i:Nat):Nat:=if i=k then p else if i=p then k else i
theorem swapR_get {M:List (List Int)} {p k:Nat} (hp:p< M.length) (hk:k< M.length) (i:Nat):(swapR M p k).getD i []=M.getD (tau p k i) []:=by
  unfold tau
  split
  · rename_i h;subst h;exact swapR_k hk
  · split
    · rename_i h;subst h;exact swapR_p hp
    · rename_i h1 h2;exact swapR_ne h2 h1
theorem tau_lt {p k i n:Nat} (hp:p< n) (hk:k< n) (hi:i< n):tau p k i< n:=by unfold tau;split<;>(try split)<;>omega
theorem delta_tau (p k i j:Nat):delta (tau p k i) (tau p k j)=delta i j:=by
  have e:tau p k i=tau p k j↔i=j:=by
    constructor
    · intro h
      unfold tau at h
      by_cases a:i=k
      · rw [if_pos a] at h
        by_cases c:j=k
        · omega
        · rw [if_neg c] at h
          by_cases d:j=p
          · rw [if_pos d] at h;omega
          · rw [if_neg d] at h;omega
      · rw [if_neg a] at h
        by_cases b:i=p
        · rw [if_pos b] at h
          by_cases c:j=k
          · rw [if_pos c] at h;omega
          · rw [if_neg c] at h
            by_cases d:j=p
            · omega
            · rw [if_neg d] at h;omega
        · rw [if_neg b] at h
          by_cases c:j=k
          · rw [if_pos c] at h;omega
          · rw [if_neg c] at h
            by_cases d:j=p
            · rw [if_pos d] at h;omega
            · rw [if_neg d] at h;exact h
    · rintro rfl;rfl
  unfold delta
  simp only [e]
theorem Dual.swap {m:Int} {M:List (List Int)} (h:Dual m M) {p k:Nat} (hp:p< M.length) (hk:k< M.length):Dual m (swapR M p k):=by
  obtain ⟨V,hV⟩:=h
  refine ⟨fun j=>V (tau p k j),fun i j hi hj=>?_⟩
  rw [swapR_len] at hi hj
  obtain ⟨t,ht⟩:=hV (tau p k i) (tau p k j) (tau_lt hp hk hi) (tau_lt hp hk hj)
  exact ⟨t,by rw [swapR_get hp hk,ht,delta_tau]⟩
theorem scaleAt_k {m u:Int} {M:List (List Int)} {k:Nat} (hk:k< M.length):(scaleAt m M k u).getD k []=scaleR m u (M.getD k []):=getD_set_self hk
theorem scaleAt_ne {m u:Int} {M:List (List Int)} {k i:Nat} (h:i≠k):(scaleAt m M k u).getD i []=M.getD i []:=getD_set_ne (Ne.symm h)
theorem delta_self (i:Nat):delta i i=1:=by simp [delta]
theorem delta_ne {i j:Nat} (h:i≠j):delta i j=0:=by simp [delta,h]
theorem Dual.scale {m u x:Int} {M:List (List Int)} (h:Dual m M) {k:Nat} (hk:k< M.length) (hu:x*u % m=1):Dual m (scaleAt m M k u):=by
  obtain ⟨V,hV⟩:=h
  have he:=Int.emod_add_mul_ediv (x*u) m
  rw [hu] at he
  refine ⟨fun j=>if j=k then fun c=>x*V k c else V j,fun i j hi hj=>?_⟩
  rw [scaleAt_len] at hi hj
  simp only []
  by_cases hik:i=k
  · subst hik
    rw [scaleAt_k hk]
    by_cases hjk:j=i
    · subst hjk
      rw [if_pos rfl]
      obtain ⟨t,ht⟩:=dot_scaleR m u (M.getD j []) (fun c=>x*V j c)
      obtain ⟨s,hs⟩:=hV j j hk hk
      rw [delta_self] at hs ⊢
      rw [ht,dot_smul,hs]
      exact ⟨x*u / m+u*x*s+t,by grind⟩
    · rw [if_neg hjk]
      obtain ⟨t,ht⟩:=dot_scaleR m u (M.getD i []) (V j)
      obtain ⟨s,hs⟩:=hV i j hk hj
      rw [delta_ne (Ne.symm hjk)] at hs ⊢
      rw [ht,hs]
      exact ⟨u*s+t,by grind⟩
  · rw [scaleAt_ne hik]
    by_cases hjk:j=k
    · subst hjk
      rw [if_pos rfl]
      obtain ⟨s,hs⟩:=hV i j hi hj
      rw [delta_ne hik] at hs ⊢
      rw [dot_smul,hs]
      exact ⟨x*s,by grind⟩
    · rw [if_neg hjk]
      exact hV i j hi hj
theorem Dual.sweep1 {m:Int} {w:Nat} {M:List (List Int)} (h:Dual m M) (hM:matOk m w M=true) {c k i0:Nat} (hk:k< M.length) (hi0:i0< M.length):Dual m (sweep1 m c k i0 M):=by
  by_cases hc:i0=k∨at2 M i0 c=0
  · unfold El.sweep1;rw [if_pos hc];exact h
  obtain ⟨V,hV⟩:=h
  have hik:i0≠k:=fun e=>hc (.inl e)
  have hne:∀ i,i≠i0→(El.sweep1 m c k i0 M).getD i []=M.getD i []:=fun i hi=>sweep1_ne (Ne.symm hi)
  have hat:(El.sweep1 m c k i0 M).getD i0 []=addR m (at2 M i0 c) (M.getD i0 []) (M.getD k []):=by
    unfold El.sweep1;rw [if_neg hc,getD_set_self hi0]
  have hlen:(M.getD k []).length=(M.getD i0 []).length:=by rw [len_at hM hk,len_at hM hi0]
  generalize at2 M i0 c=f at hat
  refine ⟨fun j=>if j=k then fun c=>V k c+f*V i0 c else V j,fun i j hi hj=>?_⟩
  rw [sweep1_len] at hi hj
  simp only []
  by_cases hii:i=i0
  · subst hii
    rw [hat]
    by_cases hjk:j=k
    · subst hjk
      rw [if_pos rfl]
      obtain ⟨t,ht⟩:=dot_addR m f (M.getD i []) (M.getD j []) (fun c=>V j c+f*V i c) hlen
      obtain ⟨s1,h1⟩:=hV i j hi hj
      obtain ⟨s2,h2⟩:=hV i i hi hi
      obtain ⟨s3,h3⟩:=hV j j hj hj
      obtain ⟨s4,h4⟩:=hV j i hj hi
      rw [delta_ne hik] at h1 ⊢
      rw [delta_self] at h2 h3
      rw [delta_ne (Ne.symm hik)] at h4
      rw [ht,dot_add,dot_add,h1,h2,h3,h4]
      exact ⟨s1+f*s2 - f*s3 - f*f*s4+t,by grind⟩
    · rw [if_neg hjk]
      obtain ⟨t,ht⟩:=dot_addR m f (M.getD i []) (M.getD k []) (V j) hlen
      obtain ⟨s1,h1⟩:=hV i j hi hj
      obtain ⟨s2,h2⟩:=hV k j hk hj
      rw [delta_ne (Ne.symm hjk)] at h2
      rw [ht,h1,h2]
      exact ⟨s1 - f*s2+t,by grind⟩
  · rw [hne i hii]
    by_cases hjk:j=k
    · subst hjk
      rw [if_pos rfl]
      obtain ⟨s1,h1⟩:=hV i j hi hj
      obtain ⟨s2,h2⟩:=hV i i0 hi hi0
      rw [delta_ne hii] at h2
      rw [dot_add,h1,h2]
      exact ⟨s1+f*s2,by grind⟩
    · rw [if_neg hjk]
      exact hV i j hi hj
theorem Dual.sweep {m:Int} {w:Nat} {c k:Nat} (hm:0< m) (d:Nat):∀ (i:Nat) (M:List (List Int)),Dual m M→matOk m w M=true→k< M.length→i+d≤M.length→Dual m (sweep m c k d i M):=by
  induction d with
  |zero=>intro i M h _ _ _;exact h
  |succ d ih=>
    intro i M h hM hk hi
    rw [El.sweep]
    exact ih _ _ (h.sweep1 hM hk (by omega)) (sweep1_ok hm hM (by omega) hk) (by rw [sweep1_len];exact hk) (by rw [sweep1_len];omega)
theorem swapR_at2 {M:List (List Int)} {p k:Nat} (hk:k< M.length) (c:Nat):at2 (swapR M p k) k c=at2 M p c:=by unfold at2;rw [swapR_k hk]
theorem Dual.pivot {m:Int} {w c k p:Nat} {M:List (List Int)} (hmod:isMod m=true) (h:Dual m M) (hM:matOk m w M=true) (hp:p< M.length) (hk:k< M.length) (hne:at2 M p c≠0):Dual m (pivot m c k p M):=by
  have hm:0< m:=by rcases isMod_cases hmod with rfl|rfl|rfl|rfl<;>decide
  simp only [El.pivot]
  have hr:=at2_in hm hM p c
  rw [swapR_at2 hk]
  have hi:=inv_mul hmod hr.1 hr.2 hne
  have h2:=(h.swap hp hk).scale (k:=k) (by rw [swapR_len];exact hk) hi.1
  have hM2:=scaleAt_ok (u:=inv (at2 M p c) m) hm (swapR_ok hM hp hk) (k:=k) (by rw [swapR_len];exact hk)
  exact Dual.sweep hm _ _ _ h2 hM2 (by rw [scaleAt_len,swapR_len];exact hk) (by omega)
/-- From row k on the numbers ahead of column c are 0. -/
def Zero (M:List (List Int)) (k c:Nat):Prop:=∀ i,k≤i→i< M.length→∀ c',c'< c→at2 M i c'=0
theorem Zero.next {M:List (List Int)} {k c:Nat} (h:Zero M k c) (hf:¬ find M c k< M.length):Zero M k (c+1):=by
  intro i hi hl c' hc
  by_cases e:c'=c
  · subst e;exact find_zero _ _ rfl i hi (by omega)
  · exact h i hi hl c' (by omega)
theorem pivot_row {m:Int} {c k p i:Nat} {M:List (List Int)} (hi:i< M.length) (hik:i≠k) (hp:p< M.length) (hk:k< M.length):
    let q:=scaleR m (inv (at2 M p c) m) (M.getD p [])
    (pivot m c k p M).getD i []=if at2 M (tau p k i) c=0 then M.getD (tau p k i) [] else addR m (at2 M (tau p k i) c) (M.getD (tau p k i) []) q:=by
  intro q
  have hk1:k< (swapR M p k).length:=by rw [swapR_len];exact hk
  simp only [pivot]
  rw [sweep_at _ _ _ (Nat.zero_le _) (by rw [scaleAt_len,swapR_len];omega),swapR_at2 hk]
  unfold sweep1
  have e1:(scaleAt m (swapR M p k) k (inv (at2 M p c) m)).getD i []=M.getD (tau p k i) []:=by rw [scaleAt_ne hik,swapR_get hp hk]
  have e2:(scaleAt m (swapR M p k) k (inv (at2 M p c) m)).getD k []=q:=by rw [scaleAt_k hk1,swapR_k hk]
  have e3:at2 (scaleAt m (swapR M p k) k (inv (at2 M p c) m)) i c=at2 M (tau p k i) c:=by show ((scaleAt m (swapR M p k) k (inv (at2 M p c) m)).getD i []).getD c 0=_;rw [e1];rfl
  rw [e3,e2,e1]
  by_cases h0:at2 M (tau p k i) c=0
  · rw [if_pos (.inr h0),if_pos h0,e1]
  · rw [if_neg (fun h=>h.elim hik h0),if_neg h0,getD_set_self (by rw [scaleAt_len,swapR_len];exact hi)]
theorem Zero.pivot {m:Int} {w c k p:Nat} {M:List (List Int)} (hmod:isMod m=true) (h:Zero M k c) (hM:matOk m w M=true) (hc:c< w) (hp:p< M.length) (hkp:k≤p) (hne:at2 M p c≠0):Zero (pivot m c k p M) (k+1) (c+1):=by
  have hm:0< m:=by rcases isMod_cases hmod with rfl|rfl|rfl|rfl<;>decide
  intro i hi hl c' hc'
  rw [pivot_len] at hl
  have hk:k< M.length:=by omega
  have hrow:=pivot_row (m:=m) (c:=c) hl (show i≠k by omega) hp hk
  simp only at hrow
  unfold at2 at hrow ⊢
  rw [hrow]
  have ht:k≤tau p k i∧tau p k i< M.length:=by unfold tau;split<;>(try split)<;>omega
  have hz:∀ c'',c''< c→∀ j,k≤j→j< M.length→(M.getD j []).getD c'' 0=0:=fun c'' hc'' j h1 h2=>h j h1 h2 c'' hc''
  split
  · rename_i h0
    by_cases e:c'=c
    · subst e;exact h0
    · exact hz c' (by omega) _ ht.1 ht.2
  · rename_i h0
    have hl1:=len_at hM ht.2
    have hl2:(scaleR m (inv ((M.getD p []).getD c 0) m) (M.getD p [])).length=w:=by simp only [scaleR,List.length_map];exact len_at hM hp
    rw [addR_getD (by omega) (by omega),scaleR_getD]
    by_cases e:c'=c
    · subst e
      have hr:=at2_in hm hM p c'
      have hi:=inv_mul hmod hr.1 hr.2 hne
      unfold at2 at hi
      rw [hi.1,Int.mul_one,show (M.getD (tau p k i) []).getD c' 0+(m - (M.getD (tau p k i) []).getD c' 0)=m by omega,Int.emod_self]
    · rw [hz c' (by omega) _ ht.1 ht.2,hz c' (by omega) p hkp hp];simp
theorem isMod_ge {m:Int} (h:isMod m=true):2≤m∧m≤7:=by rcases isMod_cases h with rfl|rfl|rfl|rfl<;>decide
theorem Dual.row {m:Int} {M:List (List Int)} (hmod:isMod m=true) (h:Dual m M) {i:Nat} (hi:i< M.length):∃ c,(M.getD i []).getD c 0≠0:=by
  apply Classical.byContradiction
  intro hn
  obtain ⟨V,hV⟩:=h
  obtain ⟨t,ht⟩:=hV i i hi hi
  rw [dot_zero _ _ (fun c=>Classical.byContradiction fun hc=>hn ⟨c,hc⟩),delta_self] at ht
  have:=isMod_ge hmod
  have h1:(1:Int)=m*(-t):=by grind
  have h2:(1:Int) % m=0:=by rw [h1];exact Int.mul_emod_right _ _
  rw [Int.emod_eq_of_lt (by omega) (by omega)] at h2
  omega
theorem elim_full {m:Int} {n:Nat} (hmod:isMod m=true):∀ (d c:Nat) (M:List (List Int)) (pl:List Int) (det:Int),c+d=n→matOk m n M=true→Dual m M→pl.length≤M.length→Zero M pl.length c→
    (elim m d c M pl det).1.length=M.length∧(elim m d c M pl det).2.1.length=M.length∧Dual m (elim m d c M pl det).1:=by
  have hm:0< m:=by have:=isMod_ge hmod;omega
  intro d
  induction d with
  |zero=>
    intro c M pl det hcn hM hD hpl hZ
    refine ⟨rfl,?_,hD⟩
    show pl.length=M.length
    rcases Nat.lt_or_ge pl.length M.length with h|h
    · obtain ⟨c',hc'⟩:=hD.row hmod h
      exfalso
      apply hc'
      by_cases hlt:c'< n
      · exact hZ _ (Nat.le_refl _) h c' (by omega)
      · rw [List.getD_eq_getElem?_getD,List.getElem?_eq_none (by rw [len_at hM h];omega)];rfl
    · omega
  |succ d ih=>
    intro c M pl det hcn hM hD hpl hZ
    simp only [elim]
    by_cases hf:find M c pl.length< M.length
    · rw [if_pos hf]
      have hge:=find_ge M c pl.length
      have hne:=find_at _ _ rfl hf
      have hpl2:(pl++[(c:Int)]).length=pl.length+1:=by simp
      have:=ih (c+1) (pivot m c pl.length (find M c pl.length) M) (pl++[(c:Int)]) (det1 m c pl.length (find M c pl.length) M det) (by omega) (pivot_ok hm hM hf (by omega)) (hD.pivot hmod hM hf (by omega) hne)
        (by rw [hpl2,pivot_len];omega) (by rw [hpl2];exact hZ.pivot hmod hM (by omega) hf hge hne)
      rw [pivot_len] at this
      exact this
    · rw [if_neg hf]
      exact ih (c+1) M pl 0 (by omega) hM hD hpl (hZ.next hf)
end Go.Proofs.Ytbbdjoahdbjljaa.El
