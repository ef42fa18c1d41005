import Derived.Test.YtlpdpdaieeaajaaFw29
import Derived.Test.YtlpdpdaieeaajaaProg
set_option linter.unusedSimpArgs false
set_option linter.unusedVariables false
namespace Go.Fw
open Go.Proofs
theorem Try.agg1 : tagg Try.prog 1 = some false := by kernel_rfl
theorem Try.sz1 : tsz Try.prog 1 = some 1 := by kernel_rfl
theorem Try.byt1 : tbytes Try.prog 1 = some 8 := by kernel_rfl
theorem Try.zero1 : tzero Try.prog 1 = some .nilFunc := by kernel_rfl
theorem Try.agg2 : tagg Try.prog 2 = some false := by kernel_rfl
theorem Try.sz2 : tsz Try.prog 2 = some 1 := by kernel_rfl
theorem Try.byt2 : tbytes Try.prog 2 = some 8 := by kernel_rfl
theorem Try.zero2 : tzero Try.prog 2 = some (.int .i64 0) := by kernel_rfl
theorem Try.agg3 : tagg Try.prog 3 = some false := by kernel_rfl
theorem Try.sz3 : tsz Try.prog 3 = some 1 := by kernel_rfl
theorem Try.byt3 : tbytes Try.prog 3 = some 8 := by kernel_rfl
theorem Try.zero3 : tzero Try.prog 3 = some (.int .i64 0) := by kernel_rfl
theorem Try.agg4 : tagg Try.prog 4 = some false := by kernel_rfl
theorem Try.sz4 : tsz Try.prog 4 = some 1 := by kernel_rfl
theorem Try.byt4 : tbytes Try.prog 4 = some 1 := by kernel_rfl
theorem Try.zero4 : tzero Try.prog 4 = some (.bool false) := by kernel_rfl
theorem Try.agg5 : tagg Try.prog 5 = some false := by kernel_rfl
theorem Try.sz5 : tsz Try.prog 5 = some 1 := by kernel_rfl
theorem Try.byt5 : tbytes Try.prog 5 = some 1 := by kernel_rfl
theorem Try.zero5 : tzero Try.prog 5 = some (.int .u8 0) := by kernel_rfl
theorem Try.agg6 : tagg Try.prog 6 = some false := by kernel_rfl
theorem Try.sz6 : tsz Try.prog 6 = some 1 := by kernel_rfl
theorem Try.byt6 : tbytes Try.prog 6 = some 1 := by kernel_rfl
theorem Try.zero6 : tzero Try.prog 6 = some (.int .u8 0) := by kernel_rfl
theorem Try.agg7 : tagg Try.prog 7 = some true := by kernel_rfl
theorem Try.sz7 : tsz Try.prog 7 = some 4 := by kernel_rfl
theorem Try.byt7 : tbytes Try.prog 7 = some 24 := by kernel_rfl
theorem Try.zero7 : tzero Try.prog 7 = some (.agg #[(.int .i64 0), (.int .i64 0), (.bool false), (.int .u8 0)]) := by kernel_rfl
theorem Try.agg8 : tagg Try.prog 8 = some true := by kernel_rfl
theorem Try.sz8 : tsz Try.prog 8 = some 4 := by kernel_rfl
theorem Try.byt8 : tbytes Try.prog 8 = some 24 := by kernel_rfl
theorem Try.zero8 : tzero Try.prog 8 = some (.agg #[(.int .i64 0), (.int .i64 0), (.bool false), (.int .u8 0)]) := by kernel_rfl
theorem Try.agg9 : tagg Try.prog 9 = some false := by kernel_rfl
theorem Try.sz9 : tsz Try.prog 9 = some 1 := by kernel_rfl
theorem Try.byt9 : tbytes Try.prog 9 = some 16 := by kernel_rfl
theorem Try.zero9 : tzero Try.prog 9 = some (.string .empty) := by kernel_rfl
theorem Try.agg10 : tagg Try.prog 10 = some false := by kernel_rfl
theorem Try.sz10 : tsz Try.prog 10 = some 1 := by kernel_rfl
theorem Try.byt10 : tbytes Try.prog 10 = some 16 := by kernel_rfl
theorem Try.zero10 : tzero Try.prog 10 = some (.string .empty) := by kernel_rfl
theorem Try.agg11 : tagg Try.prog 11 = some false := by kernel_rfl
theorem Try.sz11 : tsz Try.prog 11 = some 1 := by kernel_rfl
theorem Try.byt11 : tbytes Try.prog 11 = some 16 := by kernel_rfl
theorem Try.zero11 : tzero Try.prog 11 = some (.string .empty) := by kernel_rfl
theorem Try.agg12 : tagg Try.prog 12 = some false := by kernel_rfl
theorem Try.sz12 : tsz Try.prog 12 = some 1 := by kernel_rfl
theorem Try.byt12 : tbytes Try.prog 12 = some 8 := by kernel_rfl
theorem Try.zero12 : tzero Try.prog 12 = some (.int .u64 0) := by kernel_rfl
theorem Try.agg13 : tagg Try.prog 13 = some true := by kernel_rfl
theorem Try.sz13 : tsz Try.prog 13 = some 2 := by kernel_rfl
theorem Try.byt13 : tbytes Try.prog 13 = some 24 := by kernel_rfl
theorem Try.zero13 : tzero Try.prog 13 = some (.agg #[(.string .empty), (.int .u64 0)]) := by kernel_rfl
theorem Try.agg14 : tagg Try.prog 14 = some true := by kernel_rfl
theorem Try.sz14 : tsz Try.prog 14 = some 2 := by kernel_rfl
theorem Try.byt14 : tbytes Try.prog 14 = some 24 := by kernel_rfl
theorem Try.zero14 : tzero Try.prog 14 = some (.agg #[(.string .empty), (.int .u64 0)]) := by kernel_rfl
theorem Try.agg15 : tagg Try.prog 15 = some false := by kernel_rfl
theorem Try.sz15 : tsz Try.prog 15 = some 1 := by kernel_rfl
theorem Try.byt15 : tbytes Try.prog 15 = some 8 := by kernel_rfl
theorem Try.zero15 : tzero Try.prog 15 = some (.pointer none) := by kernel_rfl
theorem Try.agg16 : tagg Try.prog 16 = some false := by kernel_rfl
theorem Try.sz16 : tsz Try.prog 16 = some 1 := by kernel_rfl
theorem Try.byt16 : tbytes Try.prog 16 = some 8 := by kernel_rfl
theorem Try.zero16 : tzero Try.prog 16 = some (.pointer none) := by kernel_rfl
theorem Try.agg17 : tagg Try.prog 17 = some false := by kernel_rfl
theorem Try.sz17 : tsz Try.prog 17 = some 1 := by kernel_rfl
theorem Try.byt17 : tbytes Try.prog 17 = some 8 := by kernel_rfl
theorem Try.zero17 : tzero Try.prog 17 = some (.pointer none) := by kernel_rfl
theorem Try.agg18 : tagg Try.prog 18 = some true := by kernel_rfl
theorem Try.sz18 : tsz Try.prog 18 = some 1 := by kernel_rfl
theorem Try.byt18 : tbytes Try.prog 18 = some 8 := by kernel_rfl
theorem Try.zero18 : tzero Try.prog 18 = some (.agg #[(.pointer none)]) := by kernel_rfl
theorem Try.agg19 : tagg Try.prog 19 = some true := by kernel_rfl
theorem Try.sz19 : tsz Try.prog 19 = some 1 := by kernel_rfl
theorem Try.byt19 : tbytes Try.prog 19 = some 8 := by kernel_rfl
theorem Try.zero19 : tzero Try.prog 19 = some (.agg #[(.pointer none)]) := by kernel_rfl
theorem Try.agg20 : tagg Try.prog 20 = some false := by kernel_rfl
theorem Try.sz20 : tsz Try.prog 20 = some 1 := by kernel_rfl
theorem Try.byt20 : tbytes Try.prog 20 = some 16 := by kernel_rfl
theorem Try.zero20 : tzero Try.prog 20 = some .nilIface := by kernel_rfl
theorem Try.agg21 : tagg Try.prog 21 = some false := by kernel_rfl
theorem Try.sz21 : tsz Try.prog 21 = some 1 := by kernel_rfl
theorem Try.byt21 : tbytes Try.prog 21 = some 4 := by kernel_rfl
theorem Try.zero21 : tzero Try.prog 21 = some (.int .i32 0) := by kernel_rfl
theorem Try.agg22 : tagg Try.prog 22 = some false := by kernel_rfl
theorem Try.sz22 : tsz Try.prog 22 = some 1 := by kernel_rfl
theorem Try.byt22 : tbytes Try.prog 22 = some 24 := by kernel_rfl
theorem Try.el22 : telem Try.prog 22 = some 32 := by kernel_rfl
theorem Try.zero22 : tzero Try.prog 22 = some (.slice none 0 0) := by kernel_rfl
theorem Try.agg23 : tagg Try.prog 23 = some true := by kernel_rfl
theorem Try.sz23 : tsz Try.prog 23 = some 32 := by kernel_rfl
theorem Try.byt23 : tbytes Try.prog 23 = some 32 := by kernel_rfl
theorem Try.zero23 : tzero Try.prog 23 = some (.agg #[(.int .u8 0), (.int .u8 0), (.int .u8 0), (.int .u8 0), (.int .u8 0), (.int .u8 0), (.int .u8 0), (.int .u8 0), (.int .u8 0), (.int .u8 0), (.int .u8 0), (.int .u8 0), (.int .u8 0), (.int .u8 0), (.int .u8 0), (.int .u8 0), (.int .u8 0), (.int .u8 0), (.int .u8 0), (.int .u8 0), (.int .u8 0), (.int .u8 0), (.int .u8 0), (.int .u8 0), (.int .u8 0), (.int .u8 0), (.int .u8 0), (.int .u8 0), (.int .u8 0), (.int .u8 0), (.int .u8 0), (.int .u8 0)]) := by kernel_rfl
theorem Try.agg24 : tagg Try.prog 24 = some true := by kernel_rfl
theorem Try.sz24 : tsz Try.prog 24 = some 32 := by kernel_rfl
theorem Try.byt24 : tbytes Try.prog 24 = some 32 := by kernel_rfl
theorem Try.zero24 : tzero Try.prog 24 = some (.agg #[(.int .u8 0), (.int .u8 0), (.int .u8 0), (.int .u8 0), (.int .u8 0), (.int .u8 0), (.int .u8 0), (.int .u8 0), (.int .u8 0), (.int .u8 0), (.int .u8 0), (.int .u8 0), (.int .u8 0), (.int .u8 0), (.int .u8 0), (.int .u8 0), (.int .u8 0), (.int .u8 0), (.int .u8 0), (.int .u8 0), (.int .u8 0), (.int .u8 0), (.int .u8 0), (.int .u8 0), (.int .u8 0), (.int .u8 0), (.int .u8 0), (.int .u8 0), (.int .u8 0), (.int .u8 0), (.int .u8 0), (.int .u8 0)]) := by kernel_rfl
theorem Try.agg25 : tagg Try.prog 25 = some false := by kernel_rfl
theorem Try.sz25 : tsz Try.prog 25 = some 1 := by kernel_rfl
theorem Try.byt25 : tbytes Try.prog 25 = some 8 := by kernel_rfl
theorem Try.zero25 : tzero Try.prog 25 = some .nilFunc := by kernel_rfl
theorem Try.agg26 : tagg Try.prog 26 = some false := by kernel_rfl
theorem Try.sz26 : tsz Try.prog 26 = some 1 := by kernel_rfl
theorem Try.byt26 : tbytes Try.prog 26 = some 4 := by kernel_rfl
theorem Try.zero26 : tzero Try.prog 26 = some (.int .u32 0) := by kernel_rfl
theorem Try.agg27 : tagg Try.prog 27 = some false := by kernel_rfl
theorem Try.sz27 : tsz Try.prog 27 = some 1 := by kernel_rfl
theorem Try.byt27 : tbytes Try.prog 27 = some 24 := by kernel_rfl
theorem Try.el27 : telem Try.prog 27 = some 24 := by kernel_rfl
theorem Try.zero27 : tzero Try.prog 27 = some (.slice none 0 0) := by kernel_rfl
theorem Try.agg28 : tagg Try.prog 28 = some false := by kernel_rfl
theorem Try.sz28 : tsz Try.prog 28 = some 1 := by kernel_rfl
theorem Try.byt28 : tbytes Try.prog 28 = some 24 := by kernel_rfl
theorem Try.el28 : telem Try.prog 28 = some 9 := by kernel_rfl
theorem Try.zero28 : tzero Try.prog 28 = some (.slice none 0 0) := by kernel_rfl
theorem Try.agg29 : tagg Try.prog 29 = some false := by kernel_rfl
theorem Try.sz29 : tsz Try.prog 29 = some 1 := by kernel_rfl
theorem Try.byt29 : tbytes Try.prog 29 = some 24 := by kernel_rfl
theorem Try.el29 : telem Try.prog 29 = some 3 := by kernel_rfl
theorem Try.zero29 : tzero Try.prog 29 = some (.slice none 0 0) := by kernel_rfl
theorem Try.agg30 : tagg Try.prog 30 = some true := by kernel_rfl
theorem Try.sz30 : tsz Try.prog 30 = some 4 := by kernel_rfl
theorem Try.byt30 : tbytes Try.prog 30 = some 80 := by kernel_rfl
theorem Try.zero30 : tzero Try.prog 30 = some (.agg #[(.int .u32 0), (.slice none 0 0), (.slice none 0 0), (.slice none 0 0)]) := by kernel_rfl
theorem Try.agg31 : tagg Try.prog 31 = some true := by kernel_rfl
theorem Try.sz31 : tsz Try.prog 31 = some 4 := by kernel_rfl
theorem Try.byt31 : tbytes Try.prog 31 = some 80 := by kernel_rfl
theorem Try.zero31 : tzero Try.prog 31 = some (.agg #[(.int .u32 0), (.slice none 0 0), (.slice none 0 0), (.slice none 0 0)]) := by kernel_rfl
theorem Try.agg32 : tagg Try.prog 32 = some false := by kernel_rfl
theorem Try.sz32 : tsz Try.prog 32 = some 1 := by kernel_rfl
theorem Try.byt32 : tbytes Try.prog 32 = some 2 := by kernel_rfl
theorem Try.zero32 : tzero Try.prog 32 = some (.int .u16 0) := by kernel_rfl
theorem Try.agg33 : tagg Try.prog 33 = some false := by kernel_rfl
theorem Try.sz33 : tsz Try.prog 33 = some 1 := by kernel_rfl
theorem Try.byt33 : tbytes Try.prog 33 = some 24 := by kernel_rfl
theorem Try.el33 : telem Try.prog 33 = some 5 := by kernel_rfl
theorem Try.zero33 : tzero Try.prog 33 = some (.slice none 0 0) := by kernel_rfl
theorem Try.agg34 : tagg Try.prog 34 = some false := by kernel_rfl
theorem Try.sz34 : tsz Try.prog 34 = some 1 := by kernel_rfl
theorem Try.byt34 : tbytes Try.prog 34 = some 8 := by kernel_rfl
theorem Try.zero34 : tzero Try.prog 34 = some .nilFunc := by kernel_rfl
theorem Try.agg35 : tagg Try.prog 35 = some false := by kernel_rfl
theorem Try.sz35 : tsz Try.prog 35 = some 1 := by kernel_rfl
theorem Try.byt35 : tbytes Try.prog 35 = some 8 := by kernel_rfl
theorem Try.zero35 : tzero Try.prog 35 = some .nilFunc := by kernel_rfl
theorem Try.agg36 : tagg Try.prog 36 = some false := by kernel_rfl
theorem Try.sz36 : tsz Try.prog 36 = some 1 := by kernel_rfl
theorem Try.byt36 : tbytes Try.prog 36 = some 8 := by kernel_rfl
theorem Try.zero36 : tzero Try.prog 36 = some .nilFunc := by kernel_rfl
theorem Try.agg37 : tagg Try.prog 37 = some false := by kernel_rfl
theorem Try.sz37 : tsz Try.prog 37 = some 1 := by kernel_rfl
theorem Try.byt37 : tbytes Try.prog 37 = some 8 := by kernel_rfl
theorem Try.zero37 : tzero Try.prog 37 = some (.int .i64 0) := by kernel_rfl
theorem Try.agg39 : tagg Try.prog 39 = some false := by kernel_rfl
theorem Try.sz39 : tsz Try.prog 39 = some 1 := by kernel_rfl
theorem Try.byt39 : tbytes Try.prog 39 = some 8 := by kernel_rfl
theorem Try.zero39 : tzero Try.prog 39 = some .nilFunc := by kernel_rfl
theorem Try.agg40 : tagg Try.prog 40 = some false := by kernel_rfl
theorem Try.sz40 : tsz Try.prog 40 = some 1 := by kernel_rfl
theorem Try.byt40 : tbytes Try.prog 40 = some 8 := by kernel_rfl
theorem Try.zero40 : tzero Try.prog 40 = some .nilFunc := by kernel_rfl
theorem Try.agg42 : tagg Try.prog 42 = some false := by kernel_rfl
theorem Try.sz42 : tsz Try.prog 42 = some 1 := by kernel_rfl
theorem Try.byt42 : tbytes Try.prog 42 = some 8 := by kernel_rfl
theorem Try.zero42 : tzero Try.prog 42 = some .nilFunc := by kernel_rfl
theorem Try.agg44 : tagg Try.prog 44 = some false := by kernel_rfl
theorem Try.sz44 : tsz Try.prog 44 = some 1 := by kernel_rfl
theorem Try.byt44 : tbytes Try.prog 44 = some 8 := by kernel_rfl
theorem Try.zero44 : tzero Try.prog 44 = some .nilFunc := by kernel_rfl
theorem Try.agg45 : tagg Try.prog 45 = some false := by kernel_rfl
theorem Try.sz45 : tsz Try.prog 45 = some 1 := by kernel_rfl
theorem Try.byt45 : tbytes Try.prog 45 = some 8 := by kernel_rfl
theorem Try.zero45 : tzero Try.prog 45 = some .nilFunc := by kernel_rfl
theorem Try.agg46 : tagg Try.prog 46 = some false := by kernel_rfl
theorem Try.sz46 : tsz Try.prog 46 = some 1 := by kernel_rfl
theorem Try.byt46 : tbytes Try.prog 46 = some 8 := by kernel_rfl
theorem Try.zero46 : tzero Try.prog 46 = some .nilFunc := by kernel_rfl
theorem Try.agg47 : tagg Try.prog 47 = some false := by kernel_rfl
theorem Try.sz47 : tsz Try.prog 47 = some 1 := by kernel_rfl
theorem Try.byt47 : tbytes Try.prog 47 = some 24 := by kernel_rfl
theorem Try.el47 : telem Try.prog 47 = some 49 := by kernel_rfl
theorem Try.zero47 : tzero Try.prog 47 = some (.slice none 0 0) := by kernel_rfl
theorem Try.agg48 : tagg Try.prog 48 = some true := by kernel_rfl
theorem Try.sz48 : tsz Try.prog 48 = some 2 := by kernel_rfl
theorem Try.byt48 : tbytes Try.prog 48 = some 32 := by kernel_rfl
theorem Try.zero48 : tzero Try.prog 48 = some (.agg #[(.string .empty), (.string .empty)]) := by kernel_rfl
theorem Try.agg49 : tagg Try.prog 49 = some true := by kernel_rfl
theorem Try.sz49 : tsz Try.prog 49 = some 2 := by kernel_rfl
theorem Try.byt49 : tbytes Try.prog 49 = some 32 := by kernel_rfl
theorem Try.zero49 : tzero Try.prog 49 = some (.agg #[(.string .empty), (.string .empty)]) := by kernel_rfl
theorem Try.agg50 : tagg Try.prog 50 = some false := by kernel_rfl
theorem Try.sz50 : tsz Try.prog 50 = some 1 := by kernel_rfl
theorem Try.byt50 : tbytes Try.prog 50 = some 8 := by kernel_rfl
theorem Try.zero50 : tzero Try.prog 50 = some .nilFunc := by kernel_rfl
theorem Try.agg51 : tagg Try.prog 51 = some false := by kernel_rfl
theorem Try.sz51 : tsz Try.prog 51 = some 1 := by kernel_rfl
theorem Try.byt51 : tbytes Try.prog 51 = some 8 := by kernel_rfl
theorem Try.zero51 : tzero Try.prog 51 = some .nilFunc := by kernel_rfl
theorem Try.agg52 : tagg Try.prog 52 = some false := by kernel_rfl
theorem Try.sz52 : tsz Try.prog 52 = some 1 := by kernel_rfl
theorem Try.byt52 : tbytes Try.prog 52 = some 8 := by kernel_rfl
theorem Try.zero52 : tzero Try.prog 52 = some .nilFunc := by kernel_rfl
theorem Try.agg53 : tagg Try.prog 53 = some false := by kernel_rfl
theorem Try.sz53 : tsz Try.prog 53 = some 1 := by kernel_rfl
theorem Try.byt53 : tbytes Try.prog 53 = some 8 := by kernel_rfl
theorem Try.zero53 : tzero Try.prog 53 = some .nilFunc := by kernel_rfl
theorem Try.agg54 : tagg Try.prog 54 = some false := by kernel_rfl
theorem Try.sz54 : tsz Try.prog 54 = some 1 := by kernel_rfl
theorem Try.byt54 : tbytes Try.prog 54 = some 8 := by kernel_rfl
theorem Try.zero54 : tzero Try.prog 54 = some (.int .u64 0) := by kernel_rfl
theorem Try.agg55 : tagg Try.prog 55 = some false := by kernel_rfl
theorem Try.sz55 : tsz Try.prog 55 = some 1 := by kernel_rfl
theorem Try.byt55 : tbytes Try.prog 55 = some 8 := by kernel_rfl
theorem Try.zero55 : tzero Try.prog 55 = some .nilFunc := by kernel_rfl
theorem Try.agg56 : tagg Try.prog 56 = some false := by kernel_rfl
theorem Try.sz56 : tsz Try.prog 56 = some 1 := by kernel_rfl
theorem Try.byt56 : tbytes Try.prog 56 = some 8 := by kernel_rfl
theorem Try.zero56 : tzero Try.prog 56 = some .nilFunc := by kernel_rfl
theorem Try.agg57 : tagg Try.prog 57 = some false := by kernel_rfl
theorem Try.sz57 : tsz Try.prog 57 = some 1 := by kernel_rfl
theorem Try.byt57 : tbytes Try.prog 57 = some 8 := by kernel_rfl
theorem Try.zero57 : tzero Try.prog 57 = some .nilFunc := by kernel_rfl
theorem Try.agg58 : tagg Try.prog 58 = some false := by kernel_rfl
theorem Try.sz58 : tsz Try.prog 58 = some 1 := by kernel_rfl
theorem Try.byt58 : tbytes Try.prog 58 = some 8 := by kernel_rfl
theorem Try.zero58 : tzero Try.prog 58 = some .nilFunc := by kernel_rfl
theorem Try.agg59 : tagg Try.prog 59 = some false := by kernel_rfl
theorem Try.sz59 : tsz Try.prog 59 = some 1 := by kernel_rfl
theorem Try.byt59 : tbytes Try.prog 59 = some 8 := by kernel_rfl
theorem Try.zero59 : tzero Try.prog 59 = some .nilFunc := by kernel_rfl
theorem Try.agg60 : tagg Try.prog 60 = some false := by kernel_rfl
theorem Try.sz60 : tsz Try.prog 60 = some 1 := by kernel_rfl
theorem Try.byt60 : tbytes Try.prog 60 = some 8 := by kernel_rfl
theorem Try.zero60 : tzero Try.prog 60 = some .nilFunc := by kernel_rfl
theorem Try.agg61 : tagg Try.prog 61 = some false := by kernel_rfl
theorem Try.sz61 : tsz Try.prog 61 = some 1 := by kernel_rfl
theorem Try.byt61 : tbytes Try.prog 61 = some 8 := by kernel_rfl
theorem Try.zero61 : tzero Try.prog 61 = some (.pointer none) := by kernel_rfl
theorem Try.agg62 : tagg Try.prog 62 = some true := by kernel_rfl
theorem Try.sz62 : tsz Try.prog 62 = some 2 := by kernel_rfl
theorem Try.byt62 : tbytes Try.prog 62 = some 24 := by kernel_rfl
theorem Try.zero62 : tzero Try.prog 62 = some (.agg #[(.string .empty), (.int .i64 0)]) := by kernel_rfl
theorem Try.agg63 : tagg Try.prog 63 = some true := by kernel_rfl
theorem Try.sz63 : tsz Try.prog 63 = some 2 := by kernel_rfl
theorem Try.byt63 : tbytes Try.prog 63 = some 24 := by kernel_rfl
theorem Try.zero63 : tzero Try.prog 63 = some (.agg #[(.string .empty), (.int .i64 0)]) := by kernel_rfl
theorem Try.agg64 : tagg Try.prog 64 = some false := by kernel_rfl
theorem Try.sz64 : tsz Try.prog 64 = some 1 := by kernel_rfl
theorem Try.byt64 : tbytes Try.prog 64 = some 8 := by kernel_rfl
theorem Try.zero64 : tzero Try.prog 64 = some .nilFunc := by kernel_rfl
theorem Try.agg65 : tagg Try.prog 65 = some false := by kernel_rfl
theorem Try.sz65 : tsz Try.prog 65 = some 1 := by kernel_rfl
theorem Try.byt65 : tbytes Try.prog 65 = some 8 := by kernel_rfl
theorem Try.zero65 : tzero Try.prog 65 = some .nilFunc := by kernel_rfl
theorem Try.agg66 : tagg Try.prog 66 = some false := by kernel_rfl
theorem Try.sz66 : tsz Try.prog 66 = some 1 := by kernel_rfl
theorem Try.byt66 : tbytes Try.prog 66 = some 8 := by kernel_rfl
theorem Try.zero66 : tzero Try.prog 66 = some .nilFunc := by kernel_rfl
theorem Try.agg67 : tagg Try.prog 67 = some false := by kernel_rfl
theorem Try.sz67 : tsz Try.prog 67 = some 1 := by kernel_rfl
theorem Try.byt67 : tbytes Try.prog 67 = some 8 := by kernel_rfl
theorem Try.zero67 : tzero Try.prog 67 = some .nilFunc := by kernel_rfl
theorem Try.agg69 : tagg Try.prog 69 = some false := by kernel_rfl
theorem Try.sz69 : tsz Try.prog 69 = some 1 := by kernel_rfl
theorem Try.byt69 : tbytes Try.prog 69 = some 8 := by kernel_rfl
theorem Try.zero69 : tzero Try.prog 69 = some .nilFunc := by kernel_rfl
theorem Try.agg70 : tagg Try.prog 70 = some false := by kernel_rfl
theorem Try.sz70 : tsz Try.prog 70 = some 1 := by kernel_rfl
theorem Try.byt70 : tbytes Try.prog 70 = some 8 := by kernel_rfl
theorem Try.zero70 : tzero Try.prog 70 = some .nilFunc := by kernel_rfl
theorem Try.agg72 : tagg Try.prog 72 = some false := by kernel_rfl
theorem Try.sz72 : tsz Try.prog 72 = some 1 := by kernel_rfl
theorem Try.byt72 : tbytes Try.prog 72 = some 8 := by kernel_rfl
theorem Try.zero72 : tzero Try.prog 72 = some .nilFunc := by kernel_rfl
theorem Try.agg74 : tagg Try.prog 74 = some false := by kernel_rfl
theorem Try.sz74 : tsz Try.prog 74 = some 1 := by kernel_rfl
theorem Try.byt74 : tbytes Try.prog 74 = some 8 := by kernel_rfl
theorem Try.zero74 : tzero Try.prog 74 = some .nilFunc := by kernel_rfl
theorem Try.agg75 : tagg Try.prog 75 = some false := by kernel_rfl
theorem Try.sz75 : tsz Try.prog 75 = some 1 := by kernel_rfl
theorem Try.byt75 : tbytes Try.prog 75 = some 8 := by kernel_rfl
theorem Try.zero75 : tzero Try.prog 75 = some .nilFunc := by kernel_rfl
theorem Try.agg76 : tagg Try.prog 76 = some false := by kernel_rfl
theorem Try.sz76 : tsz Try.prog 76 = some 1 := by kernel_rfl
theorem Try.byt76 : tbytes Try.prog 76 = some 8 := by kernel_rfl
theorem Try.zero76 : tzero Try.prog 76 = some .nilFunc := by kernel_rfl
theorem Try.agg77 : tagg Try.prog 77 = some false := by kernel_rfl
theorem Try.sz77 : tsz Try.prog 77 = some 1 := by kernel_rfl
theorem Try.byt77 : tbytes Try.prog 77 = some 8 := by kernel_rfl
theorem Try.zero77 : tzero Try.prog 77 = some .nilFunc := by kernel_rfl
theorem Try.agg78 : tagg Try.prog 78 = some false := by kernel_rfl
theorem Try.sz78 : tsz Try.prog 78 = some 1 := by kernel_rfl
theorem Try.byt78 : tbytes Try.prog 78 = some 8 := by kernel_rfl
theorem Try.zero78 : tzero Try.prog 78 = some .nilFunc := by kernel_rfl
theorem Try.agg79 : tagg Try.prog 79 = some false := by kernel_rfl
theorem Try.sz79 : tsz Try.prog 79 = some 1 := by kernel_rfl
theorem Try.byt79 : tbytes Try.prog 79 = some 8 := by kernel_rfl
theorem Try.zero79 : tzero Try.prog 79 = some (.int .u64 0) := by kernel_rfl
theorem Try.agg80 : tagg Try.prog 80 = some false := by kernel_rfl
theorem Try.sz80 : tsz Try.prog 80 = some 1 := by kernel_rfl
theorem Try.byt80 : tbytes Try.prog 80 = some 8 := by kernel_rfl
theorem Try.zero80 : tzero Try.prog 80 = some .nilFunc := by kernel_rfl
theorem Try.agg81 : tagg Try.prog 81 = some false := by kernel_rfl
theorem Try.sz81 : tsz Try.prog 81 = some 1 := by kernel_rfl
theorem Try.byt81 : tbytes Try.prog 81 = some 8 := by kernel_rfl
theorem Try.zero81 : tzero Try.prog 81 = some .nilFunc := by kernel_rfl
theorem Try.agg82 : tagg Try.prog 82 = some false := by kernel_rfl
theorem Try.sz82 : tsz Try.prog 82 = some 1 := by kernel_rfl
theorem Try.byt82 : tbytes Try.prog 82 = some 8 := by kernel_rfl
theorem Try.zero82 : tzero Try.prog 82 = some .nilFunc := by kernel_rfl
theorem Try.agg83 : tagg Try.prog 83 = some false := by kernel_rfl
theorem Try.sz83 : tsz Try.prog 83 = some 1 := by kernel_rfl
theorem Try.byt83 : tbytes Try.prog 83 = some 8 := by kernel_rfl
theorem Try.zero83 : tzero Try.prog 83 = some .nilFunc := by kernel_rfl
theorem Try.agg84 : tagg Try.prog 84 = some false := by kernel_rfl
theorem Try.sz84 : tsz Try.prog 84 = some 1 := by kernel_rfl
theorem Try.byt84 : tbytes Try.prog 84 = some 8 := by kernel_rfl
theorem Try.zero84 : tzero Try.prog 84 = some .nilFunc := by kernel_rfl
theorem Try.agg85 : tagg Try.prog 85 = some false := by kernel_rfl
theorem Try.sz85 : tsz Try.prog 85 = some 1 := by kernel_rfl
theorem Try.byt85 : tbytes Try.prog 85 = some 8 := by kernel_rfl
theorem Try.zero85 : tzero Try.prog 85 = some .nilFunc := by kernel_rfl
theorem Try.agg86 : tagg Try.prog 86 = some false := by kernel_rfl
theorem Try.sz86 : tsz Try.prog 86 = some 1 := by kernel_rfl
theorem Try.byt86 : tbytes Try.prog 86 = some 8 := by kernel_rfl
theorem Try.zero86 : tzero Try.prog 86 = some .nilFunc := by kernel_rfl
theorem Try.agg88 : tagg Try.prog 88 = some true := by kernel_rfl
theorem Try.sz88 : tsz Try.prog 88 = some 4 := by kernel_rfl
theorem Try.byt88 : tbytes Try.prog 88 = some 40 := by kernel_rfl
theorem Try.zero88 : tzero Try.prog 88 = some (.agg #[(.pointer none), (.pointer none), (.pointer none), (.string .empty)]) := by kernel_rfl
theorem Try.agg89 : tagg Try.prog 89 = some true := by kernel_rfl
theorem Try.sz89 : tsz Try.prog 89 = some 4 := by kernel_rfl
theorem Try.byt89 : tbytes Try.prog 89 = some 40 := by kernel_rfl
theorem Try.zero89 : tzero Try.prog 89 = some (.agg #[(.pointer none), (.pointer none), (.pointer none), (.string .empty)]) := by kernel_rfl
theorem Try.agg90 : tagg Try.prog 90 = some true := by kernel_rfl
theorem Try.sz90 : tsz Try.prog 90 = some 0 := by kernel_rfl
theorem Try.byt90 : tbytes Try.prog 90 = some 0 := by kernel_rfl
theorem Try.zero90 : tzero Try.prog 90 = some (.agg #[]) := by kernel_rfl
theorem Try.agg91 : tagg Try.prog 91 = some true := by kernel_rfl
theorem Try.sz91 : tsz Try.prog 91 = some 0 := by kernel_rfl
theorem Try.byt91 : tbytes Try.prog 91 = some 0 := by kernel_rfl
theorem Try.zero91 : tzero Try.prog 91 = some (.agg #[]) := by kernel_rfl
theorem Try.agg92 : tagg Try.prog 92 = some true := by kernel_rfl
theorem Try.sz92 : tsz Try.prog 92 = some 0 := by kernel_rfl
theorem Try.byt92 : tbytes Try.prog 92 = some 0 := by kernel_rfl
theorem Try.zero92 : tzero Try.prog 92 = some (.agg #[]) := by kernel_rfl
theorem Try.agg93 : tagg Try.prog 93 = some false := by kernel_rfl
theorem Try.sz93 : tsz Try.prog 93 = some 1 := by kernel_rfl
theorem Try.byt93 : tbytes Try.prog 93 = some 8 := by kernel_rfl
theorem Try.zero93 : tzero Try.prog 93 = some .nilFunc := by kernel_rfl
theorem Try.agg94 : tagg Try.prog 94 = some false := by kernel_rfl
theorem Try.sz94 : tsz Try.prog 94 = some 1 := by kernel_rfl
theorem Try.byt94 : tbytes Try.prog 94 = some 1 := by kernel_rfl
theorem Try.zero94 : tzero Try.prog 94 = some (.int .u8 0) := by kernel_rfl
theorem Try.agg95 : tagg Try.prog 95 = some false := by kernel_rfl
theorem Try.sz95 : tsz Try.prog 95 = some 1 := by kernel_rfl
theorem Try.byt95 : tbytes Try.prog 95 = some 1 := by kernel_rfl
theorem Try.zero95 : tzero Try.prog 95 = some (.int .u8 0) := by kernel_rfl
theorem Try.agg96 : tagg Try.prog 96 = some false := by kernel_rfl
theorem Try.sz96 : tsz Try.prog 96 = some 1 := by kernel_rfl
theorem Try.byt96 : tbytes Try.prog 96 = some 8 := by kernel_rfl
theorem Try.zero96 : tzero Try.prog 96 = some .nilFunc := by kernel_rfl
theorem Try.agg97 : tagg Try.prog 97 = some false := by kernel_rfl
theorem Try.sz97 : tsz Try.prog 97 = some 1 := by kernel_rfl
theorem Try.byt97 : tbytes Try.prog 97 = some 8 := by kernel_rfl
theorem Try.zero97 : tzero Try.prog 97 = some (.pointer none) := by kernel_rfl
theorem Try.agg98 : tagg Try.prog 98 = some false := by kernel_rfl
theorem Try.sz98 : tsz Try.prog 98 = some 1 := by kernel_rfl
theorem Try.byt98 : tbytes Try.prog 98 = some 4 := by kernel_rfl
theorem Try.zero98 : tzero Try.prog 98 = some (.int .i32 0) := by kernel_rfl
theorem Try.agg99 : tagg Try.prog 99 = some false := by kernel_rfl
theorem Try.sz99 : tsz Try.prog 99 = some 1 := by kernel_rfl
theorem Try.byt99 : tbytes Try.prog 99 = some 4 := by kernel_rfl
theorem Try.zero99 : tzero Try.prog 99 = some (.int .i32 0) := by kernel_rfl
theorem Try.agg100 : tagg Try.prog 100 = some true := by kernel_rfl
theorem Try.sz100 : tsz Try.prog 100 = some 11 := by kernel_rfl
theorem Try.byt100 : tbytes Try.prog 100 = some 48 := by kernel_rfl
theorem Try.zero100 : tzero Try.prog 100 = some (.agg #[(.int .u64 0), (.int .u64 0), (.int .u32 0), (.int .u8 0), (.int .u8 0), (.int .u8 0), (.int .u8 0), .nilFunc, (.pointer none), (.int .i32 0), (.int .i32 0)]) := by kernel_rfl
theorem Try.agg101 : tagg Try.prog 101 = some true := by kernel_rfl
theorem Try.sz101 : tsz Try.prog 101 = some 11 := by kernel_rfl
theorem Try.byt101 : tbytes Try.prog 101 = some 48 := by kernel_rfl
theorem Try.zero101 : tzero Try.prog 101 = some (.agg #[(.int .u64 0), (.int .u64 0), (.int .u32 0), (.int .u8 0), (.int .u8 0), (.int .u8 0), (.int .u8 0), .nilFunc, (.pointer none), (.int .i32 0), (.int .i32 0)]) := by kernel_rfl
theorem Try.agg102 : tagg Try.prog 102 = some false := by kernel_rfl
theorem Try.sz102 : tsz Try.prog 102 = some 1 := by kernel_rfl
theorem Try.byt102 : tbytes Try.prog 102 = some 8 := by kernel_rfl
theorem Try.zero102 : tzero Try.prog 102 = some (.pointer none) := by kernel_rfl
theorem Try.body0 : noBody Try.prog 0 = true := by kernel_rfl
theorem Try.body1 : noBody Try.prog 1 = true := by kernel_rfl
theorem Try.body2 : noBody Try.prog 2 = false := by kernel_rfl
theorem Try.body3 : noBody Try.prog 3 = false := by kernel_rfl
theorem Try.body4 : noBody Try.prog 4 = false := by kernel_rfl
theorem Try.body5 : noBody Try.prog 5 = false := by kernel_rfl
theorem Try.body6 : noBody Try.prog 6 = false := by kernel_rfl
theorem Try.body7 : noBody Try.prog 7 = false := by kernel_rfl
theorem Try.body8 : noBody Try.prog 8 = false := by kernel_rfl
theorem Try.body9 : noBody Try.prog 9 = false := by kernel_rfl
theorem Try.body10 : noBody Try.prog 10 = false := by kernel_rfl
theorem Try.body11 : noBody Try.prog 11 = false := by kernel_rfl
theorem Try.body12 : noBody Try.prog 12 = false := by kernel_rfl
theorem Try.body13 : noBody Try.prog 13 = false := by kernel_rfl
theorem Try.body14 : noBody Try.prog 14 = false := by kernel_rfl
theorem Try.body15 : noBody Try.prog 15 = false := by kernel_rfl
theorem Try.body16 : noBody Try.prog 16 = false := by kernel_rfl
theorem Try.body17 : noBody Try.prog 17 = false := by kernel_rfl
theorem Try.body18 : noBody Try.prog 18 = false := by kernel_rfl
theorem Try.body19 : noBody Try.prog 19 = false := by kernel_rfl
theorem Try.body20 : noBody Try.prog 20 = false := by kernel_rfl
theorem Try.body21 : noBody Try.prog 21 = false := by kernel_rfl
theorem Try.body22 : noBody Try.prog 22 = false := by kernel_rfl
theorem Try.body23 : noBody Try.prog 23 = false := by kernel_rfl
theorem Try.body24 : noBody Try.prog 24 = false := by kernel_rfl
theorem Try.body25 : noBody Try.prog 25 = false := by kernel_rfl
theorem Try.body26 : noBody Try.prog 26 = false := by kernel_rfl
theorem Try.body27 : noBody Try.prog 27 = false := by kernel_rfl
theorem Try.body28 : noBody Try.prog 28 = false := by kernel_rfl
theorem Try.body29 : noBody Try.prog 29 = false := by kernel_rfl
theorem Try.body30 : noBody Try.prog 30 = false := by kernel_rfl
theorem Try.body31 : noBody Try.prog 31 = false := by kernel_rfl
theorem Try.body32 : noBody Try.prog 32 = false := by kernel_rfl
theorem Try.body33 : noBody Try.prog 33 = false := by kernel_rfl
theorem Try.body34 : noBody Try.prog 34 = false := by kernel_rfl
theorem Try.body35 : noBody Try.prog 35 = false := by kernel_rfl
theorem Try.body36 : noBody Try.prog 36 = false := by kernel_rfl
theorem Try.body37 : noBody Try.prog 37 = false := by kernel_rfl
theorem Try.body38 : noBody Try.prog 38 = false := by kernel_rfl
theorem Try.body39 : noBody Try.prog 39 = false := by kernel_rfl
theorem Try.body40 : noBody Try.prog 40 = false := by kernel_rfl
theorem Try.body41 : noBody Try.prog 41 = false := by kernel_rfl
theorem Try.body42 : noBody Try.prog 42 = false := by kernel_rfl
theorem Try.body43 : noBody Try.prog 43 = false := by kernel_rfl
theorem Try.body44 : noBody Try.prog 44 = false := by kernel_rfl
theorem Try.body45 : noBody Try.prog 45 = false := by kernel_rfl
theorem Try.body46 : noBody Try.prog 46 = false := by kernel_rfl
theorem Try.body47 : noBody Try.prog 47 = false := by kernel_rfl
theorem Try.body48 : noBody Try.prog 48 = false := by kernel_rfl
theorem Try.body49 : noBody Try.prog 49 = false := by kernel_rfl
theorem Try.body50 : noBody Try.prog 50 = false := by kernel_rfl
theorem Try.body51 : noBody Try.prog 51 = false := by kernel_rfl
theorem Try.body52 : noBody Try.prog 52 = false := by kernel_rfl
theorem Try.body53 : noBody Try.prog 53 = false := by kernel_rfl
theorem Try.body54 : noBody Try.prog 54 = false := by kernel_rfl
theorem Try.body55 : noBody Try.prog 55 = false := by kernel_rfl
theorem Try.body56 : noBody Try.prog 56 = true := by kernel_rfl
theorem Try.body57 : noBody Try.prog 57 = true := by kernel_rfl
theorem Try.body58 : noBody Try.prog 58 = true := by kernel_rfl
theorem Try.body59 : noBody Try.prog 59 = true := by kernel_rfl
theorem Try.body60 : noBody Try.prog 60 = true := by kernel_rfl
theorem Try.body61 : noBody Try.prog 61 = true := by kernel_rfl
theorem Try.body62 : noBody Try.prog 62 = true := by kernel_rfl
theorem Try.body63 : noBody Try.prog 63 = true := by kernel_rfl
theorem Try.body64 : noBody Try.prog 64 = true := by kernel_rfl
theorem Try.body65 : noBody Try.prog 65 = true := by kernel_rfl
theorem Try.body66 : noBody Try.prog 66 = true := by kernel_rfl
theorem Try.body67 : noBody Try.prog 67 = true := by kernel_rfl
theorem Try.body68 : noBody Try.prog 68 = true := by kernel_rfl
theorem Try.body69 : noBody Try.prog 69 = true := by kernel_rfl
theorem Try.body70 : noBody Try.prog 70 = true := by kernel_rfl
theorem Try.body71 : noBody Try.prog 71 = true := by kernel_rfl
theorem Try.body72 : noBody Try.prog 72 = true := by kernel_rfl
theorem Try.build7 (ps : List (Nat × Value)) : abuild Try.prog 7 ps.toArray = aggO (fillP [(0, 1), (1, 1), (2, 1), (3, 1)] [(.int .i64 0), (.int .i64 0), (.bool false), (.int .u8 0)] ps) := build_struct Try.underlying7 Try.zero7 (by kernel_rfl) ps
theorem Try.build8 (ps : List (Nat × Value)) : abuild Try.prog 8 ps.toArray = aggO (fillP [(0, 1), (1, 1), (2, 1), (3, 1)] [(.int .i64 0), (.int .i64 0), (.bool false), (.int .u8 0)] ps) := build_struct Try.underlying8 Try.zero8 (by kernel_rfl) ps
theorem Try.build13 (ps : List (Nat × Value)) : abuild Try.prog 13 ps.toArray = aggO (fillP [(0, 1), (1, 1)] [(.string .empty), (.int .u64 0)] ps) := build_struct Try.underlying13 Try.zero13 (by kernel_rfl) ps
theorem Try.build14 (ps : List (Nat × Value)) : abuild Try.prog 14 ps.toArray = aggO (fillP [(0, 1), (1, 1)] [(.string .empty), (.int .u64 0)] ps) := build_struct Try.underlying14 Try.zero14 (by kernel_rfl) ps
theorem Try.build18 (ps : List (Nat × Value)) : abuild Try.prog 18 ps.toArray = aggO (fillP [(0, 1)] [(.pointer none)] ps) := build_struct Try.underlying18 Try.zero18 (by kernel_rfl) ps
theorem Try.build19 (ps : List (Nat × Value)) : abuild Try.prog 19 ps.toArray = aggO (fillP [(0, 1)] [(.pointer none)] ps) := build_struct Try.underlying19 Try.zero19 (by kernel_rfl) ps
theorem Try.bsl22 (A : St) (n : Nat) (ps : List (Nat × Value)) (hn : n * 1 ≤ 16777216) : abuildSlice Try.prog A 22 n ps.toArray = thenElse (ps.all (fun p => decide (p.1 < n))) (sliceO A n 32 (fillP (places 1 n 0) (zerosR [(.int .u16 0)] n) ps)) (bslRaw Try.prog A 22 n ps) := buildSlice_of Try.el22 Try.sz32 Try.zero32 rfl (by decide) n ps hn
theorem Try.bsl27 (A : St) (n : Nat) (ps : List (Nat × Value)) (hn : n * 32 ≤ 16777216) : abuildSlice Try.prog A 27 n ps.toArray = thenElse (ps.all (fun p => decide (p.1 < n))) (sliceO A n 24 (fillP (places 32 n 0) (zerosR [(.int .u8 0), (.int .u8 0), (.int .u8 0), (.int .u8 0), (.int .u8 0), (.int .u8 0), (.int .u8 0), (.int .u8 0), (.int .u8 0), (.int .u8 0), (.int .u8 0), (.int .u8 0), (.int .u8 0), (.int .u8 0), (.int .u8 0), (.int .u8 0), (.int .u8 0), (.int .u8 0), (.int .u8 0), (.int .u8 0), (.int .u8 0), (.int .u8 0), (.int .u8 0), (.int .u8 0), (.int .u8 0), (.int .u8 0), (.int .u8 0), (.int .u8 0), (.int .u8 0), (.int .u8 0), (.int .u8 0), (.int .u8 0)] n) ps)) (bslRaw Try.prog A 27 n ps) := buildSlice_of Try.el27 Try.sz24 Try.zero24 rfl (by decide) n ps hn
theorem Try.bsl28 (A : St) (n : Nat) (ps : List (Nat × Value)) (hn : n * 1 ≤ 16777216) : abuildSlice Try.prog A 28 n ps.toArray = thenElse (ps.all (fun p => decide (p.1 < n))) (sliceO A n 9 (fillP (places 1 n 0) (zerosR [(.string .empty)] n) ps)) (bslRaw Try.prog A 28 n ps) := buildSlice_of Try.el28 Try.sz9 Try.zero9 rfl (by decide) n ps hn
theorem Try.bsl29 (A : St) (n : Nat) (ps : List (Nat × Value)) (hn : n * 1 ≤ 16777216) : abuildSlice Try.prog A 29 n ps.toArray = thenElse (ps.all (fun p => decide (p.1 < n))) (sliceO A n 3 (fillP (places 1 n 0) (zerosR [(.int .i64 0)] n) ps)) (bslRaw Try.prog A 29 n ps) := buildSlice_of Try.el29 Try.sz3 Try.zero3 rfl (by decide) n ps hn
theorem Try.build30 (ps : List (Nat × Value)) : abuild Try.prog 30 ps.toArray = aggO (fillP [(0, 1), (1, 1), (2, 1), (3, 1)] [(.int .u32 0), (.slice none 0 0), (.slice none 0 0), (.slice none 0 0)] ps) := build_struct Try.underlying30 Try.zero30 (by kernel_rfl) ps
theorem Try.build31 (ps : List (Nat × Value)) : abuild Try.prog 31 ps.toArray = aggO (fillP [(0, 1), (1, 1), (2, 1), (3, 1)] [(.int .u32 0), (.slice none 0 0), (.slice none 0 0), (.slice none 0 0)] ps) := build_struct Try.underlying31 Try.zero31 (by kernel_rfl) ps
theorem Try.bsl33 (A : St) (n : Nat) (ps : List (Nat × Value)) (hn : n * 1 ≤ 16777216) : abuildSlice Try.prog A 33 n ps.toArray = thenElse (ps.all (fun p => decide (p.1 < n))) (sliceO A n 5 (fillP (places 1 n 0) (zerosR [(.int .u8 0)] n) ps)) (bslRaw Try.prog A 33 n ps) := buildSlice_of Try.el33 Try.sz5 Try.zero5 rfl (by decide) n ps hn
theorem Try.bsl47 (A : St) (n : Nat) (ps : List (Nat × Value)) (hn : n * 2 ≤ 16777216) : abuildSlice Try.prog A 47 n ps.toArray = thenElse (ps.all (fun p => decide (p.1 < n))) (sliceO A n 49 (fillP (places 2 n 0) (zerosR [(.string .empty), (.string .empty)] n) ps)) (bslRaw Try.prog A 47 n ps) := buildSlice_of Try.el47 Try.sz49 Try.zero49 rfl (by decide) n ps hn
theorem Try.build48 (ps : List (Nat × Value)) : abuild Try.prog 48 ps.toArray = aggO (fillP [(0, 1), (1, 1)] [(.string .empty), (.string .empty)] ps) := build_struct Try.underlying48 Try.zero48 (by kernel_rfl) ps
theorem Try.build49 (ps : List (Nat × Value)) : abuild Try.prog 49 ps.toArray = aggO (fillP [(0, 1), (1, 1)] [(.string .empty), (.string .empty)] ps) := build_struct Try.underlying49 Try.zero49 (by kernel_rfl) ps
theorem Try.build62 (ps : List (Nat × Value)) : abuild Try.prog 62 ps.toArray = aggO (fillP [(0, 1), (1, 1)] [(.string .empty), (.int .i64 0)] ps) := build_struct Try.underlying62 Try.zero62 (by kernel_rfl) ps
theorem Try.build63 (ps : List (Nat × Value)) : abuild Try.prog 63 ps.toArray = aggO (fillP [(0, 1), (1, 1)] [(.string .empty), (.int .i64 0)] ps) := build_struct Try.underlying63 Try.zero63 (by kernel_rfl) ps
theorem Try.build88 (ps : List (Nat × Value)) : abuild Try.prog 88 ps.toArray = aggO (fillP [(0, 1), (1, 1), (2, 1), (3, 1)] [(.pointer none), (.pointer none), (.pointer none), (.string .empty)] ps) := build_struct Try.underlying88 Try.zero88 (by kernel_rfl) ps
theorem Try.build89 (ps : List (Nat × Value)) : abuild Try.prog 89 ps.toArray = aggO (fillP [(0, 1), (1, 1), (2, 1), (3, 1)] [(.pointer none), (.pointer none), (.pointer none), (.string .empty)] ps) := build_struct Try.underlying89 Try.zero89 (by kernel_rfl) ps
theorem Try.build91 (ps : List (Nat × Value)) : abuild Try.prog 91 ps.toArray = aggO (fillP [(0, 0)] [] ps) := build_struct Try.underlying91 Try.zero91 (by kernel_rfl) ps
theorem Try.build92 (ps : List (Nat × Value)) : abuild Try.prog 92 ps.toArray = aggO (fillP [(0, 0)] [] ps) := build_struct Try.underlying92 Try.zero92 (by kernel_rfl) ps
theorem Try.build100 (ps : List (Nat × Value)) : abuild Try.prog 100 ps.toArray = aggO (fillP [(0, 1), (1, 1), (2, 1), (3, 1), (4, 1), (5, 1), (6, 1), (7, 1), (8, 1), (9, 1), (10, 1)] [(.int .u64 0), (.int .u64 0), (.int .u32 0), (.int .u8 0), (.int .u8 0), (.int .u8 0), (.int .u8 0), .nilFunc, (.pointer none), (.int .i32 0), (.int .i32 0)] ps) := build_struct Try.underlying100 Try.zero100 (by kernel_rfl) ps
theorem Try.build101 (ps : List (Nat × Value)) : abuild Try.prog 101 ps.toArray = aggO (fillP [(0, 1), (1, 1), (2, 1), (3, 1), (4, 1), (5, 1), (6, 1), (7, 1), (8, 1), (9, 1), (10, 1)] [(.int .u64 0), (.int .u64 0), (.int .u32 0), (.int .u8 0), (.int .u8 0), (.int .u8 0), (.int .u8 0), .nilFunc, (.pointer none), (.int .i32 0), (.int .i32 0)] ps) := build_struct Try.underlying101 Try.zero101 (by kernel_rfl) ps
end Go.Fw
