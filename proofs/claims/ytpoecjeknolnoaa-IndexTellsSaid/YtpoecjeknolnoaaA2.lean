/- Walks of functions that the statements of this seat reach: what each one hands back. Conditions: those that each theorem names. -/
import Derived.Test.YtpoecjeknolnoaaH7
import Derived.Test.YtpoecjeknolnoaaProg
import Derived.KernelRfl
namespace Go.Proofs.Ytpoecjeknolnoaa
open Go.RowKit Go.Proofs.HL Go.Proofs.Try
set_option maxRecDepth 10000
set_option linter.unusedSimpArgs false
set_option linter.unusedVariables false
attribute [local irreducible] T RG RA Pu Lo
theorem mixed : prog.follows .mixedOrders = true := by kernel_rfl
def u8s (l : List Int) : List Value := l.map (Value.int .u8)
def u32s (l : List Int) : List Value := l.map (Value.int .u32)
def i64s (l : List Int) : List Value := l.map (Value.int .i64)
theorem u8s_get {l : List Int} {i : Nat} (h : i < l.length) : (u8s l)[i]? = some (.int .u8 (l.getD i 0)) := by simp [u8s, h]
theorem u32s_get {l : List Int} {i : Nat} (h : i < l.length) : (u32s l)[i]? = some (.int .u32 (l.getD i 0)) := by simp [u32s, h]
theorem i64s_get {l : List Int} {i : Nat} (h : i < l.length) : (i64s l)[i]? = some (.int .i64 (l.getD i 0)) := by simp [i64s, h]
theorem one_u8s (l : List Int) : ∀ u ∈ u8s l, u.oneCell' = true := one_map _ (fun _ => rfl) l
theorem one_u32s (l : List Int) : ∀ u ∈ u32s l, u.oneCell' = true := one_map _ (fun _ => rfl) l
theorem one_i64s (l : List Int) : ∀ u ∈ i64s l, u.oneCell' = true := one_map _ (fun _ => rfl) l
theorem u32s_len (l : List Int) : (u32s l).length = l.length := by simp [u32s]
theorem i64s_len (l : List Int) : (i64s l).length = l.length := by simp [i64s]
theorem u8s_len (l : List Int) : (u8s l).length = l.length := by simp [u8s]
/-- A word turned left. -/
def rotS (x k : Int) : Int :=
  let s := bits .and .u64 (IntKind.u64.wrap k) 31
  bits .or .u32 (IntKind.u32.wrap (x * 2 ^ (min s.toNat 32))) (x.fdiv (2 ^ (min (IntKind.u64.wrap (32 - s)).toNat 32)))
theorem rot_c (x k : Int) (w : World) : Gives prog 81 [.int .u32 x, .int .i64 k].toArray w (.int .u32 (rotS x k)) := by
  refine gives_of_T func81 rfl 17 rfl rfl rfl [] (holds0 w) ?_
  refine t_seq_region ?_
  refine rg_pure (by rfl) (by rfl) (pu_assignE (v := .int .u32 _) (by rfl)) ?_
  refine rg_nil ?_
  refine t_seq_region ?_
  refine rg_pure (by rfl) (by rfl) (pu_moveE (v := .int .i64 _) (by rfl)) ?_
  refine rg_pure (by rfl) (by rfl) (pu_conv (by rfl) underlying3 underlying80 (by rfl)) ?_
  refine rg_pure (by rfl) (by rfl) (pu_and (by rfl) (by rfl)) ?_
  refine rg_pure (by rfl) (by rfl) (pu_assignE (v := .int .u64 _) (by rfl)) ?_
  refine rg_nil ?_
  refine t_seq_region ?_
  refine rg_pure (by rfl) (by rfl) (pu_moveE (v := .int .u32 _) (by rfl)) ?_
  refine rg_pure (by rfl) (by rfl) (pu_moveE (v := .int .u64 _) (by rfl)) ?_
  refine rg_pure (by rfl) (by rfl) (pu_shl (by rfl) (by rfl) (bits_nonneg _ _ rfl _ _)) ?_
  refine rg_pure (by rfl) (by rfl) (pu_moveE (v := .int .u32 _) (by rfl)) ?_
  refine rg_pure (by rfl) (by rfl) (pu_moveE (v := .int .u64 _) (by rfl)) ?_
  refine rg_pure (by rfl) (by rfl) (pu_sub (by rfl) (by rfl)) ?_
  refine rg_pure (by rfl) (by rfl) (pu_shr (by rfl) (by rfl) (u64_nonneg _)) ?_
  refine rg_pure (by rfl) (by rfl) (pu_or (by rfl) (by rfl)) ?_
  refine rg_pure (by rfl) (by rfl) (pu_assignE (v := .int .u32 _) (by rfl)) ?_
  refine rg_nil ?_
  refine t_ret ?_
  exact Fin.ret (res1 rfl .tmp) (by rfl)
/-- A word turned right by each of some numbers. -/
def turnedS (x : Int) (by_ : List Int) : Int := by_.foldl (fun out n => bits .xor .u32 out (rotS x (IntKind.i64.wrap (0 - n)))) 0
theorem turnedS_take (x : Int) (by_ : List Int) (k : Nat) (hk : k < by_.length) : turnedS x (by_.take (k + 1)) = bits .xor .u32 (turnedS x (by_.take k)) (rotS x (IntKind.i64.wrap (0 - by_.getD k 0))) := by
  have h : by_[k]? = some (by_.getD k 0) := by simp [hk]
  simp only [turnedS, List.take_add_one, h, List.foldl_append, Option.toList, List.foldl_cons, List.foldl_nil]
theorem turned_c (x : Int) (v : Value) (by_ : List Int) (w : World) (hv : Sl w v 1 by_.length (i64s by_)) : Gives prog 78 [.int .u32 x, v].toArray w (.int .u32 (turnedS x by_)) := by
  have hb := hv.len
  refine gives_of_T func78 rfl 22 rfl rfl rfl [.sl v 1 by_.length (i64s by_)] ((holds0 w).addSl hv (by decide)) ?_
  refine t_seq_region ?_
  refine rg_pure (by rfl) (by rfl) (pu_assignE (v := .int .u32 _) (by rfl)) ?_
  refine rg_nil ?_
  refine t_seq_region ?_
  refine rg_pure (by rfl) (by rfl) (pu_assignE (v := .int .u32 _) (by rfl)) ?_
  refine rg_nil ?_
  refine t_seq ?_
  refine t_seq_region ?_
  refine rg_pure (by rfl) (by rfl) (pu_moveE (by rfl)) ?_
  refine rg_pure (by rfl) (by rfl) (pu_len (by rfl) (SrcE.src (by repeat constructor)) (by rfl) underlying23) ?_
  refine rg_pure (by rfl) (by rfl) (pu_moveE (v := .int .i64 _) (by rfl)) ?_
  refine rg_nil ?_
  refine t_block ?_
  refine t_loop (σ := Nat) (fun k => [(mkS, marksV []), (0, .int .u32 x), (5, .int .u32 (turnedS x (by_.take k))), (8, v), (9, .int .i64 (by_.length : Int)), (10, .int .i64 (k : Int))]) (fun k => [.sl v 1 by_.length (i64s by_)]) (fun k => k ≤ by_.length) (fun k => by_.length - k) 0 (by simp) (by repeat (first | exact agree_nil | refine agree_cons (by rfl) ?_)) (by repeat constructor) (fun k g hk => ?_)
  refine t_seq_region ?_
  refine rg_pure (by rfl) (by rfl) (pu_lss (by rfl) (by rfl)) ?_
  refine rg_nil ?_
  refine t_seq ?_
  refine t_cond (by rfl) (fun hc0 => ?_) (fun hc0 => ?_)
  ·
    have hk1 : k < by_.length := by simp at hc0; omega
    refine t_skip ?_
    refine t_seq ?_
    refine t_block ?_
    refine t_seq_region ?_
    refine rg_pure (by rfl) (by rfl) (pu_index1 (by rfl) (by rfl) (SrcE.src (by repeat constructor)) underlying23 sizeOf3 (by omega)) ?_
    refine rg_pure (by rfl) (by rfl) (pu_load1S (by rfl) isAgg3 (SrcE.src (by repeat constructor)) (i64s_get (by simpa using hk1))) ?_
    refine rg_pure (by rfl) (by rfl) (pu_assignE (v := .int .i64 _) (by rfl)) ?_
    refine rg_nil ?_
    refine t_region ?_
    refine rg_pure (by rfl) (by rfl) (pu_moveE (v := .int .u32 _) (by rfl)) ?_
    refine rg_pure (by rfl) (by rfl) (pu_moveE (v := .int .u32 _) (by rfl)) ?_
    refine rg_pure (by rfl) (by rfl) (pu_moveE (v := .int .i64 _) (by rfl)) ?_
    refine rg_pure (by rfl) (by rfl) (pu_neg (by rfl)) ?_
    refine rg_loud (by rfl) (lo_callFQ call81 (by rfl) (fun w hw => rot_c _ _ w) ?_)
    refine rg_pure (by rfl) (by rfl) (pu_xor (by rfl) (by rfl)) ?_
    refine rg_pure (by rfl) (by rfl) (pu_assignE (v := .int .u32 _) (by rfl)) ?_
    refine rg_nil ?_
    refine t_region ?_
    refine rg_pure (by rfl) (by rfl) (pu_add64 (by rfl) (by rfl) (by omega)) ?_
    refine rg_pure (by rfl) (by rfl) (pu_moveE (v := .int .i64 _) (by rfl)) ?_
    refine rg_nil ?_
    exact ⟨k + 1, (by simp at *; omega), (by simp at *; omega), (agree_cons (by rfl) (agree_cons (by rfl) (agree_cons (by rw [turnedS_take _ _ _ hk1]; rfl) (agree_cons (by rfl) (agree_cons (by rfl) (agree_cons (by rfl) agree_nil)))))), (by repeat constructor)⟩
  ·
    have hk1 : k = by_.length := by simp at hc0; omega
    refine t_exit ?_
    refine t_seq_region ?_
    refine rg_pure (by rfl) (by rfl) (pu_moveE (v := .int .u32 _) (by rfl)) ?_
    refine rg_pure (by rfl) (by rfl) (pu_assignE (v := .int .u32 _) (by rfl)) ?_
    refine rg_nil ?_
    refine t_ret ?_
    exact Fin.ret (res1 rfl .tmp) (by show Value.int .u32 (turnedS x (by_.take k)) = _; rw [hk1, List.take_length])
/-! ### Constants, Clone -/
def constS : List Int := [1116352408, 1899447441, 3049323471, 3921009573, 961987163, 1508970993, 2453635748, 2870763221, 3624381080, 310598401, 607225278, 1426881987, 1925078388, 2162078206, 2614888103, 3248222580, 3835390401, 4022224774, 264347078, 604807628, 770255983, 1249150122, 1555081692, 1996064986, 2554220882, 2821834349, 2952996808, 3210313671, 3336571891, 3584528711, 113926993, 338241895, 666307205, 773529912, 1294757372, 1396182291, 1695183700, 1986661051, 2177026350, 2456956037, 2730485921, 2820302411, 3259730800, 3345764771, 3516065817, 3600352804, 4094571909, 275423344, 430227734, 506948616, 659060556, 883997877, 958139571, 1322822218, 1537002063, 1747873779, 1955562222, 2024104815, 2227730452, 2361852424, 2428436474, 2756734187, 3204031479, 3329325298]
def startS : List Int := [1779033703, 3144134277, 1013904242, 2773480762, 1359893119, 2600822924, 528734635, 1541459225]
theorem elemOk45 : ElemOk prog 45 5 1 1 := ⟨rfl, ⟨_, _, rfl, rfl, rfl, rfl, rfl⟩, by decide⟩
theorem elemOk22 : ElemOk prog 22 49 35 56 := ⟨rfl, ⟨_, _, rfl, rfl, rfl, rfl, rfl⟩, by decide⟩
theorem const_c (w : World) : Gives prog 76 [].toArray w (.agg (u32s constS).toArray) := by
  refine gives_of_T func76 rfl 2 rfl rfl rfl [] (holds0 w) ?_
  refine t_seq_region ?_
  refine rg_loud (by rfl) (lo_alloc (cs := u32s (List.replicate 64 0)) (by rfl) zeroValue115 (by rfl) (fun b0 hb0 => ?_))
  refine rg_nil ?_
  refine t_seq_region ?_
  refine rg_pure (by rfl) (by rfl) (pu_build (cells := (u32s constS).toArray) (by kernel_rfl)) ?_
  refine rg_loud (by rfl) (lo_storeV (vs := u32s constS) (by rfl) (by rfl) (by rfl) (by repeat constructor) sizeOf115 (by first | (simp only [u8s_len, u32s_len, i64s_len, List.length_replicate, List.length_set, *]; done) | rfl) (one_u32s _) (by first | (simp only [u8s_len, u32s_len, i64s_len, List.length_replicate, List.length_set, *]; done) | rfl) ?_)
  refine rg_nil ?_
  refine t_ret ?_
  exact Fin.ret (res1 rfl (ResV.cellA (cs := _) (by rfl) isAgg115 sizeOf115 (HasE.has (by repeat constructor)) (by first | (simp only [u8s_len, u32s_len, i64s_len, List.length_replicate, List.length_set, *]; done) | rfl))) (by rfl)
theorem start_c (w : World) : Gives prog 72 [].toArray w (.agg (u32s startS).toArray) := by
  refine gives_of_T func72 rfl 2 rfl rfl rfl [] (holds0 w) ?_
  refine t_seq_region ?_
  refine rg_loud (by rfl) (lo_alloc (cs := u32s (List.replicate 8 0)) (by rfl) zeroValue107 (by rfl) (fun b0 hb0 => ?_))
  refine rg_nil ?_
  refine t_seq_region ?_
  refine rg_pure (by rfl) (by rfl) (pu_build (cells := (u32s startS).toArray) (by kernel_rfl)) ?_
  refine rg_loud (by rfl) (lo_storeV (vs := u32s startS) (by rfl) (by rfl) (by rfl) (by repeat constructor) sizeOf107 (by first | (simp only [u8s_len, u32s_len, i64s_len, List.length_replicate, List.length_set, *]; done) | rfl) (one_u32s _) (by first | (simp only [u8s_len, u32s_len, i64s_len, List.length_replicate, List.length_set, *]; done) | rfl) ?_)
  refine rg_nil ?_
  refine t_ret ?_
  exact Fin.ret (res1 rfl (ResV.cellA (cs := _) (by rfl) isAgg107 sizeOf107 (HasE.has (by repeat constructor)) (by first | (simp only [u8s_len, u32s_len, i64s_len, List.length_replicate, List.length_set, *]; done) | rfl))) (by rfl)
theorem nil_of_base {w : World} {v : Value} {sz n : Nat} {xs : List Value} (hv : Sl w v sz n xs) (h : (base v).isNone = true) : n = 0 ∧ xs = [] := by
  have hn : n = 0 := by
    rcases Nat.eq_zero_or_pos n with h0 | h0
    · exact h0
    · obtain ⟨a, ha, _⟩ := hv.2.2 h0
      rw [ha] at h
      cases h
  subst hn
  exact ⟨rfl, List.eq_nil_of_length_eq_zero (by simpa using hv.2.1)⟩
theorem clone71_c (v : Value) (n : Nat) (xs : List Value) (w : World) (hv : Sl w v 1 n xs) (h1 : ∀ u ∈ xs, u.oneCell' = true) (hn : n * 1 ≤ 140737488355328) :
    Calls prog 71 [v].toArray w (Ret [] w fun u w' => ∃ i : Value, True ∧ u = i ∧ Fresh w.heap.size [Ent.row 5 1 i n xs] w') := by
  refine hands_of_T func71 rfl 8 rfl rfl rfl [.sl v 1 n xs] ((holds0 w).addSl hv (by decide)) (fun _ => rfl) ?_
  refine t_seq_region ?_
  refine rg_pure (by rfl) (by rfl) (pu_assign) ?_
  refine rg_nil ?_
  refine t_seq ?_
  refine t_seq_region ?_
  refine rg_pure (by rfl) (by rfl) (pu_moveE (by rfl)) ?_
  refine rg_pure (by rfl) (by rfl) (pu_isnil (by rfl) (by rfl) (SrcE.src (by repeat constructor)) underlying45) ?_
  refine rg_nil ?_
  refine t_cond (by rfl) (fun hc0 => ?_) (fun hc0 => ?_)
  ·
    obtain ⟨rfl, rfl⟩ := nil_of_base hv hc0
    refine t_row_nil 5 1 ?_
    refine t_seq_region ?_
    refine rg_pure (by rfl) (by rfl) (pu_assign) ?_
    refine rg_nil ?_
    refine t_ret ?_
    exact Fin.ret (res1 rfl .tmp) ⟨_, trivial, rfl, by repeat constructor⟩
  ·
    refine t_skip ?_
    refine t_seq_region ?_
    refine rg_loud (by rfl) (lo_buildRow0 (by rfl) underlying45 sizeOf5 (fun b0 hb0 => ?_))
    refine rg_pure (by rfl) (by rfl) (pu_moveE (by rfl)) ?_
    refine rg_loud (by rfl) (lo_appendE (xs' := xs) (k' := n) elemOk45 (by rfl) (by rfl) (by rfl) (by repeat constructor) (SrcE.src (by repeat constructor)) h1 (by simp; omega) (by simp) (by rfl) (fun v1 => ?_))
    refine rg_pure (by rfl) (by rfl) (pu_assign) ?_
    refine rg_nil ?_
    refine t_ret ?_
    exact Fin.ret (res1 rfl .tmp) ⟨_, trivial, rfl, by repeat constructor⟩
theorem clone57_c (v : Value) (n : Nat) (xs : List Value) (w : World) (hv : Sl w v 1 n xs) (h1 : ∀ u ∈ xs, u.oneCell' = true) (hn : n * 1 ≤ 140737488355328) :
    Calls prog 57 [v].toArray w (Ret [] w fun u w' => ∃ i : Value, True ∧ u = i ∧ Fresh w.heap.size [Ent.row 5 1 i n xs] w') := by
  refine hands_of_T func57 rfl 8 rfl rfl rfl [.sl v 1 n xs] ((holds0 w).addSl hv (by decide)) (fun _ => rfl) ?_
  refine t_seq_region ?_
  refine rg_pure (by rfl) (by rfl) (pu_assign) ?_
  refine rg_nil ?_
  refine t_seq ?_
  refine t_seq_region ?_
  refine rg_pure (by rfl) (by rfl) (pu_moveE (by rfl)) ?_
  refine rg_pure (by rfl) (by rfl) (pu_isnil (by rfl) (by rfl) (SrcE.src (by repeat constructor)) underlying45) ?_
  refine rg_nil ?_
  refine t_cond (by rfl) (fun hc0 => ?_) (fun hc0 => ?_)
  ·
    obtain ⟨rfl, rfl⟩ := nil_of_base hv hc0
    refine t_row_nil 5 1 ?_
    refine t_seq_region ?_
    refine rg_pure (by rfl) (by rfl) (pu_assign) ?_
    refine rg_nil ?_
    refine t_ret ?_
    exact Fin.ret (res1 rfl .tmp) ⟨_, trivial, rfl, by repeat constructor⟩
  ·
    refine t_skip ?_
    refine t_seq_region ?_
    refine rg_loud (by rfl) (lo_buildRow0 (by rfl) underlying45 sizeOf5 (fun b0 hb0 => ?_))
    refine rg_pure (by rfl) (by rfl) (pu_moveE (by rfl)) ?_
    refine rg_loud (by rfl) (lo_appendE (xs' := xs) (k' := n) elemOk45 (by rfl) (by rfl) (by rfl) (by repeat constructor) (SrcE.src (by repeat constructor)) h1 (by simp; omega) (by simp) (by rfl) (fun v1 => ?_))
    refine rg_pure (by rfl) (by rfl) (pu_assign) ?_
    refine rg_nil ?_
    refine t_ret ?_
    exact Fin.ret (res1 rfl .tmp) ⟨_, trivial, rfl, by repeat constructor⟩
theorem clone52_c (v : Value) (n : Nat) (xs : List Value) (w : World) (hv : Sl w v 35 n xs) (h1 : ∀ u ∈ xs, u.oneCell' = true) (hn : n * 56 ≤ 140737488355328) :
    Calls prog 52 [v].toArray w (Ret [] w fun u w' => ∃ i : Value, True ∧ u = i ∧ Fresh w.heap.size [Ent.row 49 35 i n xs] w') := by
  refine hands_of_T func52 rfl 8 rfl rfl rfl [.sl v 35 n xs] ((holds0 w).addSl hv (by decide)) (fun _ => rfl) ?_
  refine t_seq_region ?_
  refine rg_pure (by rfl) (by rfl) (pu_assign) ?_
  refine rg_nil ?_
  refine t_seq ?_
  refine t_seq_region ?_
  refine rg_pure (by rfl) (by rfl) (pu_moveE (by rfl)) ?_
  refine rg_pure (by rfl) (by rfl) (pu_isnil (by rfl) (by rfl) (SrcE.src (by repeat constructor)) underlying22) ?_
  refine rg_nil ?_
  refine t_cond (by rfl) (fun hc0 => ?_) (fun hc0 => ?_)
  ·
    obtain ⟨rfl, rfl⟩ := nil_of_base hv hc0
    refine t_row_nil 49 35 ?_
    refine t_seq_region ?_
    refine rg_pure (by rfl) (by rfl) (pu_assign) ?_
    refine rg_nil ?_
    refine t_ret ?_
    exact Fin.ret (res1 rfl .tmp) ⟨_, trivial, rfl, by repeat constructor⟩
  ·
    refine t_skip ?_
    refine t_seq_region ?_
    refine rg_loud (by rfl) (lo_buildRow0 (by rfl) underlying22 sizeOf49 (fun b0 hb0 => ?_))
    refine rg_pure (by rfl) (by rfl) (pu_moveE (by rfl)) ?_
    refine rg_loud (by rfl) (lo_appendE (xs' := xs) (k' := n) elemOk22 (by rfl) (by rfl) (by rfl) (by repeat constructor) (SrcE.src (by repeat constructor)) h1 (by simp; omega) (by simp) (by rfl) (fun v1 => ?_))
    refine rg_pure (by rfl) (by rfl) (pu_assign) ?_
    refine rg_nil ?_
    refine t_ret ?_
    exact Fin.ret (res1 rfl .tmp) ⟨_, trivial, rfl, by repeat constructor⟩
/-! ### The words of a chunk -/
def schedHi (W : List Int) (k : Nat) : Int :=
  let a := W.getD ((k : Int) - 2).toNat 0
  let c := W.getD ((k : Int) - 15).toNat 0
  IntKind.u32.wrap (IntKind.u32.wrap (IntKind.u32.wrap (bits .xor .u32 (turnedS a [17, 19]) (a.fdiv (2 ^ (min (Int.toNat 10) IntKind.u32.bits))) + W.getD ((k : Int) - 7).toNat 0)
    + bits .xor .u32 (turnedS c [7, 18]) (c.fdiv (2 ^ (min (Int.toNat 3) IntKind.u32.bits)))) + W.getD ((k : Int) - 16).toNat 0)
def loS (b : List Int) (k : Nat) (x : Int) (j : Nat) : Int := (List.range j).foldl (fun x q => bits .or .u32 (IntKind.u32.wrap (x * 2 ^ (min (Int.toNat 8) IntKind.u32.bits))) (IntKind.u32.wrap (b.getD (4 * k + q) 0))) x
theorem loS_succ (b : List Int) (k : Nat) (x : Int) (j : Nat) : loS b k x (j + 1) = bits .or .u32 (IntKind.u32.wrap (loS b k x j * 2 ^ (min (Int.toNat 8) IntKind.u32.bits))) (IntKind.u32.wrap (b.getD (4 * k + j) 0)) := by
  simp [loS, List.range_succ, List.foldl_append]
def schedStep (b W : List Int) (k : Nat) : List Int := W.set k (if 16 ≤ k then schedHi W k else loS b k (W.getD k 0) 4)
def schedS (b : List Int) (k : Nat) : List Int := (List.range k).foldl (schedStep b) (List.replicate 64 0)
theorem schedS_succ (b : List Int) (k : Nat) : schedS b (k + 1) = schedStep b (schedS b k) k := by simp [schedS, List.range_succ, List.foldl_append]
theorem schedS_len (b : List Int) (k : Nat) : (schedS b k).length = 64 := by
  induction k with
  | zero => rfl
  | succ k ih => rw [schedS_succ, schedStep, List.length_set, ih]
theorem u32s_set (l : List Int) (i : Nat) (x : Int) : (u32s l).set i (.int .u32 x) = u32s (l.set i x) := by simp [u32s, List.map_set]
theorem u8s_set (l : List Int) (i : Nat) (x : Int) : (u8s l).set i (.int .u8 x) = u8s (l.set i x) := by simp [u8s, List.map_set]
theorem u8s_cut {l : List Int} {a n i : Nat} (h1 : i < n) (h2 : a + i < l.length) : (((u8s l).drop a).take n)[i]? = some (.int .u8 (l.getD (a + i) 0)) := by
  rw [List.getElem?_take, if_pos h1, List.getElem?_drop]
  exact u8s_get h2
theorem set_getD_self (l : List Int) (k : Nat) (h : k < l.length) : l.set k (l.getD k 0) = l := by
  apply List.ext_getElem?
  intro j
  rw [List.getElem?_set]
  split
  · rename_i hj
    subst hj
    simp [h]
  · rfl
theorem sched_c (v : Value) (b : List Int) (hb : b.length = 64) (w : World) (hv : Sl w v 1 64 (u8s b)) : Gives prog 77 [v].toArray w (.agg (u32s (schedS b 64)).toArray) := by
  refine gives_of_T func77 rfl 73 rfl rfl rfl [.sl v 1 64 (u8s b)] ((holds0 w).addSl hv (by decide)) ?_
  refine t_seq_region ?_
  refine rg_loud (by rfl) (lo_alloc (cs := u32s (List.replicate 64 0)) (by rfl) zeroValue115 (by rfl) (fun b0 hb0 => ?_))
  refine rg_nil ?_
  refine t_seq_region ?_
  refine rg_loud (by rfl) (lo_alloc (cs := u32s (List.replicate 64 0)) (by rfl) zeroValue115 (by rfl) (fun b1 hb1 => ?_))
  refine rg_nil ?_
  refine t_seq ?_
  refine t_seq_region ?_
  refine rg_pure (by rfl) (by rfl) (pu_moveE (v := .int .i64 _) (by rfl)) ?_
  refine rg_nil ?_
  refine t_block ?_
  refine t_loop (σ := Nat) (fun k => [(mkS, marksV []), (0, v), (2, .pointer (some ⟨b0, 0, none⟩)), (3, .pointer (some ⟨b1, 0, none⟩)), (7, .int .i64 (k : Int))]) (fun k => [.own b1 115 (u32s (schedS b k)), .own b0 115 (u32s (List.replicate 64 0)), .sl v 1 64 (u8s b)]) (fun k => k ≤ 64) (fun k => 64 - k) 0 (by simp) (by repeat (first | exact agree_nil | refine agree_cons (by rfl) ?_)) (by repeat constructor) (fun k g hk => ?_)
  refine t_seq_region ?_
  refine rg_pure (by rfl) (by rfl) (pu_lss (by rfl) (by rfl)) ?_
  refine rg_nil ?_
  refine t_seq ?_
  refine t_cond (by rfl) (fun hc0 => ?_) (fun hc0 => ?_)
  ·
    have hk1 : k < 64 := by simp at hc0; omega
    have hl := schedS_len b k
    refine t_skip ?_
    refine t_seq ?_
    refine t_block ?_
    refine t_seq_region ?_
    refine rg_pure (by rfl) (by rfl) (pu_moveE (v := .int .i64 _) (by rfl)) ?_
    refine rg_pure (by rfl) (by rfl) (pu_assignE (v := .int .i64 _) (by rfl)) ?_
    refine rg_nil ?_
    refine t_seq ?_
    refine t_seq_region ?_
    refine rg_pure (by rfl) (by rfl) (pu_moveE (v := .int .i64 _) (by rfl)) ?_
    refine rg_pure (by rfl) (by rfl) (pu_geq (by rfl) (by rfl)) ?_
    refine rg_nil ?_
    refine t_cond (by rfl) (fun hc1 => ?_) (fun hc1 => ?_)
    ·
      have hk2 : 16 ≤ k := by simp at hc1; omega
      refine t_seq_draw 37 38 _ mixed (Sub.refl _) (by rfl) (by decide +kernel) ?_
      refine ra_pure0 0 1 rfl (by rfl) (by decide +kernel) (by rfl) (pu_moveE (v := .int .i64 _) (by rfl)) ?_
      refine ra_pure0 1 3 rfl (by rfl) (by decide +kernel) (by rfl) (pu_moveE (v := .int .i64 _) (by rfl)) ?_
      refine ra_pure0 2 7 rfl (by rfl) (by decide +kernel) (by rfl) (pu_sub64 (by rfl) (by rfl) (by omega)) ?_
      refine ra_pure0 3 15 rfl (by rfl) (by decide +kernel) (by rfl) (pu_indexArr1 (by rfl) (by rfl) underlying115 sizeOf106 (by omega)) ?_
      refine ra_pure 4 31 rfl (by rfl) (by decide +kernel) (by rfl) (pu_load1 (by rfl) isAgg106 (HasE.has (by repeat constructor)) (u32s_get (by rw [hl]; omega))) ?_
      refine ra_pure0 7 159 rfl (by rfl) (by decide +kernel) (by rfl) (pu_moveE (v := .int .i64 _) (by rfl)) ?_
      refine ra_pure0 8 415 rfl (by rfl) (by decide +kernel) (by rfl) (pu_sub64 (by rfl) (by rfl) (by omega)) ?_
      refine ra_pure0 9 927 rfl (by rfl) (by decide +kernel) (by rfl) (pu_indexArr1 (by rfl) (by rfl) underlying115 sizeOf106 (by omega)) ?_
      refine ra_pure 10 1951 rfl (by rfl) (by decide +kernel) (by rfl) (pu_load1 (by rfl) isAgg106 (HasE.has (by repeat constructor)) (u32s_get (by rw [hl]; omega))) ?_
      refine ra_pure0 11 3999 rfl (by rfl) (by decide +kernel) (by rfl) (pu_shr (by rfl) (by rfl) (by decide)) ?_
      refine ra_pure0 13 12191 rfl (by rfl) (by decide +kernel) (by rfl) (pu_moveE (v := .int .i64 _) (by rfl)) ?_
      refine ra_pure0 14 28575 rfl (by rfl) (by decide +kernel) (by rfl) (pu_sub64 (by rfl) (by rfl) (by omega)) ?_
      refine ra_pure0 15 61343 rfl (by rfl) (by decide +kernel) (by rfl) (pu_indexArr1 (by rfl) (by rfl) underlying115 sizeOf106 (by omega)) ?_
      refine ra_pure 16 126879 rfl (by rfl) (by decide +kernel) (by rfl) (pu_load1 (by rfl) isAgg106 (HasE.has (by repeat constructor)) (u32s_get (by rw [hl]; omega))) ?_
      refine ra_pure0 18 389023 rfl (by rfl) (by decide +kernel) (by rfl) (pu_moveE (v := .int .i64 _) (by rfl)) ?_
      refine ra_pure0 19 913311 rfl (by rfl) (by decide +kernel) (by rfl) (pu_sub64 (by rfl) (by rfl) (by omega)) ?_
      refine ra_pure0 20 1961887 rfl (by rfl) (by decide +kernel) (by rfl) (pu_indexArr1 (by rfl) (by rfl) underlying115 sizeOf106 (by omega)) ?_
      refine ra_pure 21 4059039 rfl (by rfl) (by decide +kernel) (by rfl) (pu_load1 (by rfl) isAgg106 (HasE.has (by repeat constructor)) (u32s_get (by rw [hl]; omega))) ?_
      refine ra_pure0 24 20836255 rfl (by rfl) (by decide +kernel) (by rfl) (pu_moveE (v := .int .i64 _) (by rfl)) ?_
      refine ra_pure0 25 54390687 rfl (by rfl) (by decide +kernel) (by rfl) (pu_sub64 (by rfl) (by rfl) (by omega)) ?_
      refine ra_pure0 26 121499551 rfl (by rfl) (by decide +kernel) (by rfl) (pu_indexArr1 (by rfl) (by rfl) underlying115 sizeOf106 (by omega)) ?_
      refine ra_pure 27 255717279 rfl (by rfl) (by decide +kernel) (by rfl) (pu_load1 (by rfl) isAgg106 (HasE.has (by repeat constructor)) (u32s_get (by rw [hl]; omega))) ?_
      refine ra_pure0 28 524152735 rfl (by rfl) (by decide +kernel) (by rfl) (pu_shr (by rfl) (by rfl) (by decide)) ?_
      refine ra_pure0 31 2671636383 rfl (by rfl) (by decide +kernel) (by rfl) (pu_moveE (v := .int .i64 _) (by rfl)) ?_
      refine ra_pure0 32 6966603679 rfl (by rfl) (by decide +kernel) (by rfl) (pu_sub64 (by rfl) (by rfl) (by omega)) ?_
      refine ra_pure0 33 15556538271 rfl (by rfl) (by decide +kernel) (by rfl) (pu_indexArr1 (by rfl) (by rfl) underlying115 sizeOf106 (by omega)) ?_
      refine ra_pure 34 32736407455 rfl (by rfl) (by decide +kernel) (by rfl) (pu_load1 (by rfl) isAgg106 (HasE.has (by repeat constructor)) (u32s_get (by rw [hl]; omega))) ?_
      refine ra_next2 5 22 32736407487 32740601759 (by decide +kernel) ?_ ?_
      ·
        refine next_loud rfl (by rfl) (lo_buildRow1 (cs := i64s [17, 19]) (by rfl) underlying23 sizeOf3 (by decide) zeroValue3 (by rfl) (by kernel_rfl) (by rfl) (fun b2 hb2 => ⟨(fun _ => (by repeat constructor)), ?_⟩))
        refine ra_next2 6 22 32736407551 32740601791 (by decide +kernel) ?_ ?_
        ·
          refine next_loud rfl (by rfl) (lo_callFQ call78 (by rfl) (fun w hw => turned_c _ _ [17, 19] w (SrcE.src (by repeat constructor) w hw)) ⟨(fun _ => (by repeat constructor)), ?_⟩)
          refine ra_pure0 12 32736411647 rfl (by rfl) (by decide +kernel) (by rfl) (pu_xor (by rfl) (by rfl)) ?_
          refine ra_pure0 17 32736542719 rfl (by rfl) (by decide +kernel) (by rfl) (pu_add (by rfl) (by rfl)) ?_
          refine ra_next 22 32740737023 (by decide +kernel) ?_
          refine next_loud rfl (by rfl) (lo_buildRow1 (cs := i64s [7, 18]) (by rfl) underlying23 sizeOf3 (by decide) zeroValue3 (by rfl) (by kernel_rfl) (by rfl) (fun b3 hb3 => ⟨(fun _ => (by repeat constructor)), ?_⟩))
          refine ra_next 23 32749125631 (by decide +kernel) ?_
          refine next_loud rfl (by rfl) (lo_callFQ call78 (by rfl) (fun w hw => turned_c _ _ [7, 18] w (SrcE.src (by repeat constructor) w hw)) ⟨(fun _ => (by repeat constructor)), ?_⟩)
          refine ra_pure0 29 33285996543 rfl (by rfl) (by decide +kernel) (by rfl) (pu_xor (by rfl) (by rfl)) ?_
          refine ra_pure0 30 34359738367 rfl (by rfl) (by decide +kernel) (by rfl) (pu_add (by rfl) (by rfl)) ?_
          refine ra_pure0 35 68719476735 rfl (by rfl) (by decide +kernel) (by rfl) (pu_add (by rfl) (by rfl)) ?_
          refine ra_pure0 36 137438953471 rfl (by rfl) (by decide +kernel) (by rfl) (pu_indexArr1 (by rfl) (by rfl) underlying115 sizeOf106 (by omega)) ?_
          refine ra_next 37 274877906943 (by decide +kernel) ?_
          refine next_loud rfl (by rfl) (lo_store1E (v := .int .u32 _) (cs' := u32s (schedS b (k + 1))) (by rfl) (by rfl) (by rfl) (by repeat constructor) sizeOf106 (by rfl) (by rw [u32s_len, hl]; omega) (by rw [schedS_succ, schedStep, if_pos hk2, u32s_set]; rfl) ⟨(fun hlt => absurd hlt (by decide +kernel)), ?_⟩)
          refine ra_end (by decide +kernel) ?_
          refine t_exit ?_
          refine t_region ?_
          refine rg_pure (by rfl) (by rfl) (pu_add64 (by rfl) (by rfl) (by omega)) ?_
          refine rg_pure (by rfl) (by rfl) (pu_moveE (v := .int .i64 _) (by rfl)) ?_
          refine rg_nil ?_
          exact ⟨k + 1, (by omega), (by omega), (by repeat (first | exact agree_nil | refine agree_cons (by rfl) ?_)), (by repeat constructor)⟩
        ·
          refine next_loud rfl (by rfl) (lo_buildRow1 (cs := i64s [7, 18]) (by rfl) underlying23 sizeOf3 (by decide) zeroValue3 (by rfl) (by kernel_rfl) (by rfl) (fun b3 hb3 => ⟨(fun _ => (by repeat constructor)), ?_⟩))
          refine ra_next 6 32740601855 (by decide +kernel) ?_
          refine next_loud rfl (by rfl) (lo_callFQ call78 (by rfl) (fun w hw => turned_c _ _ [17, 19] w (SrcE.src (by repeat constructor) w hw)) ⟨(fun _ => (by repeat constructor)), ?_⟩)
          refine ra_pure0 12 32740605951 rfl (by rfl) (by decide +kernel) (by rfl) (pu_xor (by rfl) (by rfl)) ?_
          refine ra_pure0 17 32740737023 rfl (by rfl) (by decide +kernel) (by rfl) (pu_add (by rfl) (by rfl)) ?_
          refine ra_next 23 32749125631 (by decide +kernel) ?_
          refine next_loud rfl (by rfl) (lo_callFQ call78 (by rfl) (fun w hw => turned_c _ _ [7, 18] w (SrcE.src (by repeat constructor) w hw)) ⟨(fun _ => (by repeat constructor)), ?_⟩)
          refine ra_pure0 29 33285996543 rfl (by rfl) (by decide +kernel) (by rfl) (pu_xor (by rfl) (by rfl)) ?_
          refine ra_pure0 30 34359738367 rfl (by rfl) (by decide +kernel) (by rfl) (pu_add (by rfl) (by rfl)) ?_
          refine ra_pure0 35 68719476735 rfl (by rfl) (by decide +kernel) (by rfl) (pu_add (by rfl) (by rfl)) ?_
          refine ra_pure0 36 137438953471 rfl (by rfl) (by decide +kernel) (by rfl) (pu_indexArr1 (by rfl) (by rfl) underlying115 sizeOf106 (by omega)) ?_
          refine ra_next 37 274877906943 (by decide +kernel) ?_
          refine next_loud rfl (by rfl) (lo_store1E (v := .int .u32 _) (cs' := u32s (schedS b (k + 1))) (by rfl) (by rfl) (by rfl) (by repeat constructor) sizeOf106 (by rfl) (by rw [u32s_len, hl]; omega) (by rw [schedS_succ, schedStep, if_pos hk2, u32s_set]; rfl) ⟨(fun hlt => absurd hlt (by decide +kernel)), ?_⟩)
          refine ra_end (by decide +kernel) ?_
          refine t_exit ?_
          refine t_region ?_
          refine rg_pure (by rfl) (by rfl) (pu_add64 (by rfl) (by rfl) (by omega)) ?_
          refine rg_pure (by rfl) (by rfl) (pu_moveE (v := .int .i64 _) (by rfl)) ?_
          refine rg_nil ?_
          exact ⟨k + 1, (by omega), (by omega), (by repeat (first | exact agree_nil | refine agree_cons (by rfl) ?_)), (by repeat constructor)⟩
      ·
        refine next_loud rfl (by rfl) (lo_buildRow1 (cs := i64s [7, 18]) (by rfl) underlying23 sizeOf3 (by decide) zeroValue3 (by rfl) (by kernel_rfl) (by rfl) (fun b3 hb3 => ⟨(fun _ => (by repeat constructor)), ?_⟩))
        refine ra_next 5 32740601791 (by decide +kernel) ?_
        refine next_loud rfl (by rfl) (lo_buildRow1 (cs := i64s [17, 19]) (by rfl) underlying23 sizeOf3 (by decide) zeroValue3 (by rfl) (by kernel_rfl) (by rfl) (fun b2 hb2 => ⟨(fun _ => (by repeat constructor)), ?_⟩))
        refine ra_next 6 32740601855 (by decide +kernel) ?_
        refine next_loud rfl (by rfl) (lo_callFQ call78 (by rfl) (fun w hw => turned_c _ _ [17, 19] w (SrcE.src (by repeat constructor) w hw)) ⟨(fun _ => (by repeat constructor)), ?_⟩)
        refine ra_pure0 12 32740605951 rfl (by rfl) (by decide +kernel) (by rfl) (pu_xor (by rfl) (by rfl)) ?_
        refine ra_pure0 17 32740737023 rfl (by rfl) (by decide +kernel) (by rfl) (pu_add (by rfl) (by rfl)) ?_
        refine ra_next 23 32749125631 (by decide +kernel) ?_
        refine next_loud rfl (by rfl) (lo_callFQ call78 (by rfl) (fun w hw => turned_c _ _ [7, 18] w (SrcE.src (by repeat constructor) w hw)) ⟨(fun _ => (by repeat constructor)), ?_⟩)
        refine ra_pure0 29 33285996543 rfl (by rfl) (by decide +kernel) (by rfl) (pu_xor (by rfl) (by rfl)) ?_
        refine ra_pure0 30 34359738367 rfl (by rfl) (by decide +kernel) (by rfl) (pu_add (by rfl) (by rfl)) ?_
        refine ra_pure0 35 68719476735 rfl (by rfl) (by decide +kernel) (by rfl) (pu_add (by rfl) (by rfl)) ?_
        refine ra_pure0 36 137438953471 rfl (by rfl) (by decide +kernel) (by rfl) (pu_indexArr1 (by rfl) (by rfl) underlying115 sizeOf106 (by omega)) ?_
        refine ra_next 37 274877906943 (by decide +kernel) ?_
        refine next_loud rfl (by rfl) (lo_store1E (v := .int .u32 _) (cs' := u32s (schedS b (k + 1))) (by rfl) (by rfl) (by rfl) (by repeat constructor) sizeOf106 (by rfl) (by rw [u32s_len, hl]; omega) (by rw [schedS_succ, schedStep, if_pos hk2, u32s_set]; rfl) ⟨(fun hlt => absurd hlt (by decide +kernel)), ?_⟩)
        refine ra_end (by decide +kernel) ?_
        refine t_exit ?_
        refine t_region ?_
        refine rg_pure (by rfl) (by rfl) (pu_add64 (by rfl) (by rfl) (by omega)) ?_
        refine rg_pure (by rfl) (by rfl) (pu_moveE (v := .int .i64 _) (by rfl)) ?_
        refine rg_nil ?_
        exact ⟨k + 1, (by omega), (by omega), (by repeat (first | exact agree_nil | refine agree_cons (by rfl) ?_)), (by repeat constructor)⟩
    ·
      have hk2 : k < 16 := by simp at hc1; omega
      refine t_skip ?_
      refine t_seq_region ?_
      refine rg_pure (by rfl) (by rfl) (pu_moveE (by rfl)) ?_
      refine rg_pure (by rfl) (by rfl) (pu_moveE (v := .int .i64 _) (by rfl)) ?_
      refine rg_pure (by rfl) (by rfl) (pu_mul64 (by rfl) (by rfl) (by omega)) ?_
      refine rg_pure (by rfl) (by rfl) (pu_moveE (v := .int .i64 _) (by rfl)) ?_
      refine rg_pure (by rfl) (by rfl) (pu_mul64 (by rfl) (by rfl) (by omega)) ?_
      refine rg_pure (by rfl) (by rfl) (pu_add64 (by rfl) (by rfl) (by omega)) ?_
      refine rg_pure (by rfl) (by rfl) (pu_slice (l := 4 * k) (h := 4 * k + 4) (by rfl) (SrcE.src (by repeat constructor)) underlying45 sizeOf5 (bv_some (by omega)) (bv_some (by omega)) (by omega) (by omega)) ?_
      refine rg_pure (by rfl) (by rfl) (pu_len (by rfl) ((src_cut (SrcE.src (by repeat constructor)) (l := 4 * k) (h := 4 * k + 4) (by omega) (by omega))) (by rfl) underlying45) ?_
      refine rg_pure (by rfl) (by rfl) (pu_moveE (v := .int .i64 _) (by rfl)) ?_
      refine rg_nil ?_
      refine t_block ?_
      refine t_loop (σ := Nat) (fun j => [(mkS, marksV []), (0, v), (2, .pointer (some ⟨b0, 0, none⟩)), (3, .pointer (some ⟨b1, 0, none⟩)), (7, .int .i64 (k : Int)), (4, .int .i64 (k : Int)), (55, slV 1 v (4 * k) (4 * k + 4)), (56, .int .i64 ((4 * k + 4 - 4 * k : Nat) : Int)), (57, .int .i64 (j : Int))]) (fun j => [.own b1 115 (u32s ((schedS b k).set k (loS b k ((schedS b k).getD k 0) j))), .own b0 115 (u32s (List.replicate 64 0)), .sl v 1 64 (u8s b)]) (fun j => j ≤ 4) (fun j => 4 - j) 0 (by simp) (by repeat (first | exact agree_nil | refine agree_cons (by rfl) ?_)) (by rw [show loS b k ((schedS b k).getD k 0) 0 = (schedS b k).getD k 0 from rfl, set_getD_self _ _ (by omega)]; repeat constructor) (fun j g hj => ?_)
      refine t_seq_region ?_
      refine rg_pure (by rfl) (by rfl) (pu_lss (by rfl) (by rfl)) ?_
      refine rg_nil ?_
      refine t_seq ?_
      refine t_cond (by rfl) (fun hc2 => ?_) (fun hc2 => ?_)
      ·
        have hj1 : j < 4 := by simp at hc2; omega
        refine t_skip ?_
        refine t_seq ?_
        refine t_block ?_
        refine t_seq_region ?_
        refine rg_pure (by rfl) (by rfl) (pu_index1 (by rfl) (by rfl) ((src_cut (SrcE.src (by repeat constructor)) (l := 4 * k) (h := 4 * k + 4) (by omega) (by omega))) underlying45 sizeOf5 (by omega)) ?_
        refine rg_pure (by rfl) (by rfl) (pu_load1S (by rfl) isAgg5 ((src_cut (SrcE.src (by repeat constructor)) (l := 4 * k) (h := 4 * k + 4) (by omega) (by omega))) (u8s_cut (by omega) (by omega))) ?_
        refine rg_pure (by rfl) (by rfl) (pu_assignE (v := .int .u8 _) (by rfl)) ?_
        refine rg_nil ?_
        refine t_region ?_
        refine rg_pure (by rfl) (by rfl) (pu_moveE (v := .int .i64 _) (by rfl)) ?_
        refine rg_pure (by rfl) (by rfl) (pu_moveE (v := .int .i64 _) (by rfl)) ?_
        refine rg_pure (by rfl) (by rfl) (pu_indexArr1 (by rfl) (by rfl) underlying115 sizeOf106 (by omega)) ?_
        refine rg_pure (by rfl) (by rfl) (pu_load1 (v := .int .u32 (loS b k ((schedS b k).getD k 0) j)) (by rfl) isAgg106 (HasE.has (by repeat constructor)) (by simp [u32s, hl, hk1])) ?_
        refine rg_pure (by rfl) (by rfl) (pu_shl (by rfl) (by rfl) (by decide)) ?_
        refine rg_pure (by rfl) (by rfl) (pu_moveE (v := .int .u8 _) (by rfl)) ?_
        refine rg_pure (by rfl) (by rfl) (pu_conv (by rfl) underlying5 underlying106 (by rfl)) ?_
        refine rg_pure (by rfl) (by rfl) (pu_or (by rfl) (by rfl)) ?_
        refine rg_pure (by rfl) (by rfl) (pu_indexArr1 (by rfl) (by rfl) underlying115 sizeOf106 (by omega)) ?_
        refine rg_loud (by rfl) (lo_store1E (v := .int .u32 _) (cs' := u32s ((schedS b k).set k (loS b k ((schedS b k).getD k 0) (j + 1)))) (by rfl) (by rfl) (by rfl) (by repeat constructor) sizeOf106 (by rfl) (by simp [u32s, hl, hk1]) (by rw [u32s_set, show Int.toNat (k : Int) = k from rfl, List.set_set, loS_succ, Nat.mul_one]; rfl) ?_)
        refine rg_nil ?_
        refine t_region ?_
        refine rg_pure (by rfl) (by rfl) (pu_add64 (by rfl) (by rfl) (by omega)) ?_
        refine rg_pure (by rfl) (by rfl) (pu_moveE (v := .int .i64 _) (by rfl)) ?_
        refine rg_nil ?_
        exact ⟨j + 1, (by omega), (by omega), (by repeat (first | exact agree_nil | refine agree_cons (by rfl) ?_)), (by repeat constructor)⟩
      ·
        have hj1 : j = 4 := by simp at hc2; omega
        subst hj1
        have hs1 : schedS b (k + 1) = (schedS b k).set k (loS b k ((schedS b k).getD k 0) 4) := by rw [schedS_succ, schedStep, if_neg (by omega)]
        rw [← hs1]
        refine t_exit ?_
        refine t_region ?_
        refine rg_pure (by rfl) (by rfl) (pu_add64 (by rfl) (by rfl) (by omega)) ?_
        refine rg_pure (by rfl) (by rfl) (pu_moveE (v := .int .i64 _) (by rfl)) ?_
        refine rg_nil ?_
        exact ⟨k + 1, (by omega), (by omega), (by repeat (first | exact agree_nil | refine agree_cons (by rfl) ?_)), (by repeat constructor)⟩
  ·
    have hk1 : k = 64 := by simp at hc0; omega
    have hl := schedS_len b k
    refine t_exit ?_
    refine t_seq_region ?_
    refine rg_pure (by rfl) (by rfl) (pu_loadAll (by rfl) isAgg115 sizeOf115 (HasE.has (by repeat constructor)) (by first | (simp only [u8s_len, u32s_len, i64s_len, List.length_replicate, List.length_set, schedS_len, *]; done) | rfl)) ?_
    refine rg_loud (by rfl) (lo_storeV (vs := _) (by rfl) (by rfl) (by rfl) (by repeat constructor) sizeOf115 (by first | (simp only [u8s_len, u32s_len, i64s_len, List.length_replicate, List.length_set, schedS_len, *]; done) | rfl) (one_u32s _) (by first | (simp only [u8s_len, u32s_len, i64s_len, List.length_replicate, List.length_set, schedS_len, *]; done) | rfl) ?_)
    refine rg_nil ?_
    refine t_ret ?_
    exact Fin.ret (res1 rfl (ResV.cellA (cs := _) (by rfl) isAgg115 sizeOf115 (HasE.has (by repeat constructor)) (by first | (simp only [u8s_len, u32s_len, i64s_len, List.length_replicate, List.length_set, schedS_len, *]; done) | rfl))) (by subst hk1; rfl)
end Go.Proofs.Ytpoecjeknolnoaa
